/- What the row of FnExactFlipPath leans on (part 5): of the printed words and functions, of the contracts and of the plain facts only what it uses; no condition of its own. -/
import Derived.Test.YtckmmpknaengjaaDoorZFnExactFlipPath4
import Derived.Lib.SlTrimSet
import Derived.Lib.AsciiSet
import Derived.Deep.WholeRow
section
namespace Go.Proofs.YtckmmpknaengjaaDoor.Giv
set_option linter.unusedVariables false
set_option linter.unusedSimpArgs false
open Go.RowKit Go.Proofs.YtckmmpknaengjaaDoorW.PrintWords Go.Proofs.YtckmmpknaengjaaDoorW.PrintLast Go.Proofs.YtckmmpknaengjaaDoorW.PrintMore
def sizeV : Value → Nat
  | .string t => t.size
  | _ => 0
theorem ext_drop (t : ByteArray) (i : Nat) : (t.extract i t.size).data.toList = t.data.toList.drop i := by
  rw [ByteArray.data_extract, Array.toList_extract]
  simp
  rw [List.take_of_length_le]
  simp
theorem ext_take (t : ByteArray) (i : Nat) : (t.extract 0 i).data.toList = t.data.toList.take i := by
  rw [ByteArray.data_extract, Array.toList_extract]
  simp
theorem data_get (t : ByteArray) (i : Nat) (h : i < t.size) : t.data.toList[i]'(by simpa using h) = t[i] := by
  simp; rfl
theorem data_cons (t : ByteArray) (h : 0 < t.size) : t.data.toList = (t[0]'h) :: t.data.toList.drop 1 := by
  have hl : 0 < t.data.toList.length := by simpa using h
  have h1 := List.drop_eq_getElem_cons hl
  rw [List.drop_zero, data_get t 0 h] at h1
  exact h1
theorem data_snoc (t : ByteArray) (h : 0 < t.size) : t.data.toList = t.data.toList.take (t.size - 1) ++ [t[t.size - 1]'(by omega)] := by
  have hl : t.data.toList.length = t.size := by simp
  have h1 := List.take_succ_eq_append_getElem (l := t.data.toList) (i := t.size - 1) (by omega)
  rw [data_get t (t.size - 1) (by omega), show t.size - 1 + 1 = t.size from by omega, List.take_of_length_le (by omega)] at h1
  exact h1
theorem left_true (t : ByteArray) (cs : List UInt8) (h : 0 < t.size) (hc : cs.contains (t[0]'h) = true) : Lib.trimLeftS (t.extract 1 t.size).data.toList cs = Lib.trimLeftS t.data.toList cs := by
  rw [ext_drop]
  conv => rhs; rw [data_cons t h]
  unfold Lib.trimLeftS
  rw [List.dropWhile_cons, if_pos hc]
theorem left_false (t : ByteArray) (cs : List UInt8) (h : 0 < t.size) (hc : cs.contains (t[0]'h) = false) : t.data.toList = Lib.trimLeftS t.data.toList cs := by
  have e := data_cons t h
  rw [e]
  unfold Lib.trimLeftS
  rw [List.dropWhile_cons, if_neg (by rw [hc]; simp)]
theorem left_nil (t : ByteArray) (cs : List UInt8) (h : t.size = 0) : t.data.toList = Lib.trimLeftS t.data.toList cs := by
  have : t.data.toList = [] := List.eq_nil_of_length_eq_zero (by simpa using h)
  rw [this]
  rfl
theorem right_true (t : ByteArray) (cs : List UInt8) (h : 0 < t.size) (hc : cs.contains (t[t.size - 1]'(by omega)) = true) : Lib.trimRightS (t.extract 0 (t.size - 1)).data.toList cs = Lib.trimRightS t.data.toList cs := by
  rw [ext_take]
  conv => rhs; rw [data_snoc t h]
  unfold Lib.trimRightS
  rw [List.reverse_append, List.reverse_singleton, List.singleton_append, List.dropWhile_cons, if_pos hc]
theorem right_false (t : ByteArray) (cs : List UInt8) (h : 0 < t.size) (hc : cs.contains (t[t.size - 1]'(by omega)) = false) : t.data.toList = Lib.trimRightS t.data.toList cs := by
  have e := data_snoc t h
  rw [e]
  unfold Lib.trimRightS
  rw [List.reverse_append, List.reverse_singleton, List.singleton_append, List.dropWhile_cons, if_neg (by rw [hc]; simp), List.reverse_cons, List.reverse_reverse]
theorem right_nil (t : ByteArray) (cs : List UInt8) (h : t.size = 0) : t.data.toList = Lib.trimRightS t.data.toList cs := by
  have : t.data.toList = [] := List.eq_nil_of_length_eq_zero (by simpa using h)
  rw [this]
  rfl
theorem trimLeft_calls (g : Nat) (cs : List UInt8) (w : World) (hc : ∀ x : UInt8, w.cell? ⟨g, x.toNat, none⟩ = some (.bool (cs.contains x))) (s : ByteArray) (hs : s.size ≤ 1048576) :
    Calls Tryd.prog 67 #[.string s, .pointer (some ⟨g, 0, none⟩)] w fun e w' => ∃ t : ByteArray, e = .returned (.string t) ∧ t.data.toList = Lib.trimLeftS s.data.toList cs ∧ Drawn0 w w' := by
  go_enter Tryd.func67, Tryd.ntmps67
  go_wp2
  go_loopw [0] (fun v w' => ∃ t : ByteArray, v = .string t ∧ t.size ≤ 1048576 ∧ Aside0 (Lib.trimLeftS t.data.toList cs = Lib.trimLeftS s.data.toList cs) ∧ Drawn0 w w') (fun v w' => sizeV v)
  case atStart => exact ⟨s, rfl, hs, ⟨rfl⟩, Drawn0.refl _⟩
  case round =>
    obtain ⟨t, rfl, h0, HA, ⟨m1, rfl⟩⟩ := hrel
    by_cases hlt : (t.size : Int) > 0
    · have hltb : decide (0 < (t.size : Int)) = true := decide_eq_true hlt
      have hpos : 0 < t.size := by omega
      have hltc : decide (0 < t.size) = true := decide_eq_true hpos
      cases hb : cs.contains (t[0]'hpos) with
      | false =>
        have HB := Aside0.mk hb
        clear hb
        go_wp2_with (first | (go_at_call 74; refine (Tryd.asciiSet_contains g (t[0]'hpos) false _ (by have h_ := hc (t[0]'hpos); rw [HB.out] at h_; exact h_)).mono ?_; rintro e w' ⟨rfl, rfl⟩))
        go_ret
        exact ⟨t, rfl, by rw [← HA.out]; exact left_false t cs hpos HB.out, ⟨_, rfl⟩⟩
      | true =>
        have HB := Aside0.mk hb
        clear hb
        have HS := Aside0.mk (left_true t cs hpos HB.out)
        go_wp2_with (first | (go_at_call 74; refine (Tryd.asciiSet_contains g (t[0]'hpos) true _ (by have h_ := hc (t[0]'hpos); rw [HB.out] at h_; exact h_)).mono ?_; rintro e w' ⟨rfl, rfl⟩))
        go_roundw
        case measure => simp only [sizeV, ByteArray.size_extract]; omega
        case rel => exact ⟨_, rfl, by rw [ByteArray.size_extract]; omega, ⟨HS.out.trans HA.out⟩, ⟨_, rfl⟩⟩
    · have hltb : decide (0 < (t.size : Int)) = false := decide_eq_false hlt
      have hltc : decide (0 < t.size) = false := decide_eq_false (by omega)
      go_wp2
      go_ret
      exact ⟨t, rfl, by rw [← HA.out]; exact left_nil t cs (by omega), ⟨_, rfl⟩⟩
theorem trimRight_calls (g : Nat) (cs : List UInt8) (w : World) (hc : ∀ x : UInt8, w.cell? ⟨g, x.toNat, none⟩ = some (.bool (cs.contains x))) (s : ByteArray) (hs : s.size ≤ 1048576) :
    Calls Tryd.prog 68 #[.string s, .pointer (some ⟨g, 0, none⟩)] w fun e w' => ∃ t : ByteArray, e = .returned (.string t) ∧ t.data.toList = Lib.trimRightS s.data.toList cs ∧ t.size ≤ 1048576 ∧ Drawn0 w w' := by
  go_enter Tryd.func68, Tryd.ntmps68
  go_wp2
  go_loopw [0] (fun v w' => ∃ t : ByteArray, v = .string t ∧ t.size ≤ 1048576 ∧ Aside0 (Lib.trimRightS t.data.toList cs = Lib.trimRightS s.data.toList cs) ∧ Drawn0 w w') (fun v w' => sizeV v)
  case atStart => exact ⟨s, rfl, hs, ⟨rfl⟩, Drawn0.refl _⟩
  case round =>
    obtain ⟨t, rfl, h0, HA, ⟨m1, rfl⟩⟩ := hrel
    by_cases hlt : (t.size : Int) > 0
    · have hltb : decide (0 < (t.size : Int)) = true := decide_eq_true hlt
      have hpos : 0 < t.size := by omega
      have hltc : decide (0 < t.size) = true := decide_eq_true hpos
      have hwr : wrap64 ((t.size : Int) - 1) = ((t.size - 1 : Nat) : Int) := by unfold wrap64; omega
      cases hb : cs.contains (t[t.size - 1]'(by omega)) with
      | false =>
        have HB := Aside0.mk hb
        clear hb
        go_wp2_with (first | (go_at_call 74; refine (Tryd.asciiSet_contains g (t[t.size - 1]'(by omega)) false _ (by have h_ := hc (t[t.size - 1]'(by omega)); rw [HB.out] at h_; exact h_)).mono ?_; rintro e w' ⟨rfl, rfl⟩))
        go_ret
        exact ⟨t, rfl, by rw [← HA.out]; exact right_false t cs hpos HB.out, h0, ⟨_, rfl⟩⟩
      | true =>
        have HB := Aside0.mk hb
        clear hb
        have HS := Aside0.mk (right_true t cs hpos HB.out)
        go_wp2_with (first | (go_at_call 74; refine (Tryd.asciiSet_contains g (t[t.size - 1]'(by omega)) true _ (by have h_ := hc (t[t.size - 1]'(by omega)); rw [HB.out] at h_; exact h_)).mono ?_; rintro e w' ⟨rfl, rfl⟩))
        go_roundw
        case measure => simp only [sizeV, ByteArray.size_extract]; omega
        case rel => exact ⟨_, rfl, by rw [ByteArray.size_extract]; omega, ⟨HS.out.trans HA.out⟩, ⟨_, rfl⟩⟩
    · have hltb : decide (0 < (t.size : Int)) = false := decide_eq_false hlt
      have hltc : decide (0 < t.size) = false := decide_eq_false (by omega)
      go_wp2
      go_ret
      exact ⟨t, rfl, by rw [← HA.out]; exact right_nil t cs (by omega), h0, ⟨_, rfl⟩⟩
def strings_Trim.f (a0 : ByteArray) (a1 : ByteArray) : Option ByteArray := if a0.size ≤ 1048576 ∧ a1.data.toList = [108, 114, 117, 100] then some ⟨(Lib.trimS a0.data.toList a1.data.toList).toArray⟩ else none
theorem info_set : (Tryd.prog.info? 76).map (fun i => (i.zero, i.size)) = some (some (.agg (Array.replicate 256 (.bool false))), 256) := by kernel_rfl
theorem steps_ascii : ∀ (j : Nat) (b : UInt8), ([108, 114, 117, 100] : List UInt8)[j]? = some b → b.toNat < 128 := by
  intro j b h
  have hm : b ∈ ([108, 114, 117, 100] : List UInt8) := List.mem_of_getElem? h
  simp at hm
  rcases hm with rfl | rfl | rfl | rfl <;> decide
def stepSet : Array Value := Lib.setCells [108, 114, 117, 100]
set_option maxHeartbeats 8000000 in
set_option maxRecDepth 1000000 in
theorem Trim_calls (s : ByteArray) (w : World) (hs : s.size ≤ 1048576) :
    Calls Tryd.prog 56 #[.string s, .string ⟨#[108, 114, 117, 100]⟩] w fun e w' => ∃ t : ByteArray, e = .returned (.string t) ∧ t.data.toList = Lib.trimS s.data.toList [108, 114, 117, 100] ∧ Below w.heap.size w w' := by
  by_cases h0 : s.toList = ([] : List UInt8)
  · have h0c : s.toList.isEmpty = true := by rw [h0]; rfl
    have hd : s.data.toList = [] := by rw [← Lib.toList_data]; exact h0
    go_enter Tryd.func56, Tryd.ntmps56
    go_wp2
    go_ret
    exact ⟨s, rfl, by rw [hd]; rfl, Below.refl _ _⟩
  · have h0c : s.toList.isEmpty = false := by
      cases h : s.toList with
      | nil => exact absurd h h0
      | cons _ _ => rfl
    obtain ⟨w1, hw1⟩ : ∃ w1, w1 = w.alloc (.cells stepSet 76) := ⟨_, rfl⟩
    obtain ⟨w2, hw2⟩ : ∃ w2, w2 = w1.alloc (.cells stepSet 76) := ⟨_, rfl⟩
    have hz : ∀ w, (zeroValue 76).run Tryd.prog w = .ok (.agg (Array.replicate 256 (.bool false))) w := (zero_of_info info_set).1
    have hM : Calls Tryd.prog 66 #[.string ⟨#[108, 114, 117, 100]⟩] w fun e w' => e = .returned (.tuple #[.agg stepSet, .bool true]) ∧ w' = w1 := by
      rw [hw1]
      exact Tryd.strings_makeASCIISet hz ⟨#[108, 114, 117, 100]⟩ w (by decide) steps_ascii
    have hsc : (storeCells ⟨w1.heap.size, 0, none⟩ stepSet.toList 0).run Tryd.prog (w1.alloc (.cells (Array.replicate 256 (.bool false)) 76)) = .ok () w2 := by
      rw [hw2]
      exact run_storeCells_new (P := Tryd.prog) w1 76 (Array.replicate 256 (.bool false)) stepSet (by unfold stepSet; rw [Lib.setCells_size]; exact (zero_of_info info_set).2) (by unfold stepSet; rw [Lib.setCells_size, Array.size_replicate]) (Lib.setCells_one _)
    have hcell : ∀ x : UInt8, w2.cell? ⟨w1.heap.size, x.toNat, none⟩ = some (.bool (([108, 114, 117, 100] : List UInt8).contains x)) := fun x => by
      rw [hw2, World.cell?_alloc_at _ _ _ _ rfl]
      exact Lib.setCells_at _ _
    have hb : Below w.heap.size w w2 := by
      rw [hw2, hw1]
      exact ((Below.refl _ _).alloc (Nat.le_refl _) _).alloc (by simp) _
    have HB := Aside0.mk hb
    have HC := Aside0.mk hcell
    clear hb hcell hw2 hw1
    go_enter Tryd.func56, Tryd.ntmps56
    go_wp2_with (first
      | (go_at_call 66; refine hM.mono ?_; rintro e w' ⟨rfl, rfl⟩)
      | (go_at_call 68; refine (trimRight_calls _ [108, 114, 117, 100] _ HC.out s hs).mono ?_; rintro e w' ⟨t1, rfl, hr1, hr2, ⟨n1, rfl⟩⟩; have HR1 := Aside0.mk hr1; have HR2 := Aside0.mk hr2; clear hr1 hr2)
      | (go_at_call 67; refine (trimLeft_calls _ [108, 114, 117, 100] _ (fun x => by simpa using HC.out x) t1 HR2.out).mono ?_; rintro e w' ⟨t2, rfl, hl1, ⟨n2, rfl⟩⟩; have HL1 := Aside0.mk hl1; clear hl1))
    go_ret
    exact ⟨t2, rfl, by rw [HL1.out, HR1.out]; rfl, by first | exact below_draws HB.out _ | exact (HB.out).trans ⟨rfl, rfl, rfl, Nat.le_refl _, fun _ _ => rfl⟩⟩
theorem strings_Trim.calls (a0 : ByteArray) (a1 : ByteArray) (r : ByteArray) (w : World) (h : strings_Trim.f a0 a1 = some r) :
    Calls Tryd.prog 56 #[.string a0, .string a1] w fun e w' => e = .returned (.string r) ∧ Below w.heap.size w w' := by
  unfold strings_Trim.f at h
  split at h
  · rename_i h1
    obtain rfl := Option.some.inj h
    obtain ⟨⟨l⟩⟩ := a1
    obtain ⟨hs, hl⟩ := h1
    simp only at hl
    subst hl
    refine (Trim_calls a0 w hs).mono ?_
    rintro e w' ⟨t, rfl, ht, hb⟩
    refine ⟨?_, hb⟩
    rw [← ht]
  · cases h
end Go.Proofs.YtckmmpknaengjaaDoor.Giv
end
section
namespace Go.Proofs.YtckmmpknaengjaaDoor.Px
end Go.Proofs.YtckmmpknaengjaaDoor.Px
namespace Go.Proofs.YtckmmpknaengjaaDoor.Giv
end Go.Proofs.YtckmmpknaengjaaDoor.Giv
namespace Go.Proofs.YtckmmpknaengjaaDoor.Px
open Go.Proofs.YtckmmpknaengjaaDoor.Giv
open Go.RowKit Go.Proofs.YtckmmpknaengjaaDoorW.PrintWords Go.Proofs.YtckmmpknaengjaaDoorW.PrintLast Go.Proofs.YtckmmpknaengjaaDoorW.PrintMore
attribute [local go_sem] max2_int min2_int max_two min_two max_three min_three max_four min_four
set_option linter.unusedVariables false
set_option linter.unusedSimpArgs false
def impl_point_isWithin.f (a0_0 : Int) (a0_1 : Int) : Option (Bool) := if (mx a0_0 (wrap64 (-a0_0))) ≤ 12 then (some (decide ((mx a0_1 (wrap64 (-a0_1))) ≤ 12))) else (some false)
set_option maxHeartbeats 8000000 in
set_option maxRecDepth 100000 in
theorem impl_point_isWithin.calls (a0_0 : Int) (a0_1 : Int) (r : Bool) (w : World) (h : impl_point_isWithin.f a0_0 a0_1 = some r) :
  Calls Tryd.prog 60 #[.agg #[.int .i64 a0_0, .int .i64 a0_1]] w fun e w' => e = .returned (.bool r) ∧ Below w.heap.size w w' := by
 have hu54 := Tryd.underlying54
 have HB := Aside0.mk (Below.refl w.heap.size w)
 have H : (if (mx a0_0 (wrap64 (-a0_0))) ≤ 12 then (some (decide ((mx a0_1 (wrap64 (-a0_1))) ≤ 12))) else (some false)) = some r := h
 clear h
 obtain ⟨ji2, hji2⟩ : ∃ j_ : Int, (mx a0_0 (wrap64 (-a0_0))) = j_ := ⟨_, rfl⟩
 replace H : (if (ji2) ≤ 12 then (some (decide ((mx a0_1 (wrap64 (-a0_1))) ≤ 12))) else (some false)) = some r := by first | (rw [hji2] at H; exact H) | (simp only [hji2] at H ⊢; exact H)
 have hji2_ : (if a0_0 < (wrap64 (-a0_0)) then (wrap64 (-a0_0)) else a0_0) = ji2 := hji2
 by_cases c3 : (ji2) ≤ 12
 ·rw [if_pos c3] at H
  have c3b0 : decide ((ji2) ≤ 12) = true := decide_eq_true c3
  clear c3
  obtain ⟨ji4, hji4⟩ : ∃ j_ : Int, (mx a0_1 (wrap64 (-a0_1))) = j_ := ⟨_, rfl⟩
  replace H : (some (decide ((ji4) ≤ 12))) = some r := by first | (rw [hji4] at H; exact H) | (simp only [hji4] at H ⊢; exact H)
  have hji4_ : (if a0_1 < (wrap64 (-a0_1)) then (wrap64 (-a0_1)) else a0_1) = ji4 := hji4
  obtain rfl := Option.some.inj H
  go_enter Tryd.func60, Tryd.ntmps60
  go_wp2_with (first | ((with_reducible refine gate_dst (N := 1) rfl ?_); (try (refine gate_guard (by rfl) ?_; dsimp only)); refine box_event ?hg (N := 1) ?hd (cs := #[.int .i64 a0_0, .int .i64 a0_1]) (t := 54) ?hr ?_; (case hd => rfl); (case hg => rfl); (case hr => first | (go_simp; done) | (go_simp; rfl)); intro gb127 hg w5 hbox hb; have n0_ := Aside0.mk (below_step (by repeat (first | (with_reducible first | exact HB.out | apply below_alloc | apply pw_below_drewN | apply below_drew1) | exact HB.out)) hb); have n1_ := Aside0.mk (hbox); have n2_ := Aside0.mk ((by rw [hg]; exact (below_size (by repeat (first | (with_reducible first | exact HB.out | apply below_alloc | apply pw_below_drewN | apply below_drew1) | exact HB.out))) : w.heap.size ≤ gb127)); have n3_ := Aside0.mk ((by rw [hg]; exact (below_size (by repeat (first | (with_reducible first | exact HB.out | apply below_alloc | apply pw_below_drewN | apply below_drew1) | exact HB.out))) : w.heap.size ≤ gb127)); clear HB; have HB := n0_; have BK127 := n1_; have GW127 := n2_; have GE127 := n3_; clear n0_ n1_ n2_ n3_; clear hb hbox hg; have hcz6_0 : w5.cell? ⟨gb127, 0, none⟩ = some (.int .i64 a0_0) := (blk_cell BK127.out 0).trans rfl; have hcz6_1 : w5.cell? ⟨gb127, 1, none⟩ = some (.int .i64 a0_1) := (blk_cell BK127.out 1).trans rfl; have hfz6_0 := blk_frozen BK127.out 0; have hfz6_1 := blk_frozen BK127.out 1))
  go_ret
  exact ⟨by first | rfl | (simp [errW_none, errW_some] <;> rfl) | (simp only [← hji2, ← hji4]; first | rfl | (simp [errW_none, errW_some] <;> rfl)) | (simp [*, errW_none, errW_some] <;> rfl), by repeat (first | (with_reducible first | exact HB.out | apply below_alloc | apply pw_below_drewN | apply below_drew1 | refine below_set ?_ GE127.out) | exact HB.out)⟩
 ·rw [if_neg c3] at H
  have c3b0 : decide ((ji2) ≤ 12) = false := decide_eq_false c3
  clear c3
  obtain rfl := Option.some.inj H
  go_enter Tryd.func60, Tryd.ntmps60
  go_wp2_with (first | ((with_reducible refine gate_dst (N := 1) rfl ?_); (try (refine gate_guard (by rfl) ?_; dsimp only)); refine box_event ?hg (N := 1) ?hd (cs := #[.int .i64 a0_0, .int .i64 a0_1]) (t := 54) ?hr ?_; (case hd => rfl); (case hg => rfl); (case hr => first | (go_simp; done) | (go_simp; rfl)); intro gb127 hg w7 hbox hb; have n0_ := Aside0.mk (below_step (by repeat (first | (with_reducible first | exact HB.out | apply below_alloc | apply pw_below_drewN | apply below_drew1) | exact HB.out)) hb); have n1_ := Aside0.mk (hbox); have n2_ := Aside0.mk ((by rw [hg]; exact (below_size (by repeat (first | (with_reducible first | exact HB.out | apply below_alloc | apply pw_below_drewN | apply below_drew1) | exact HB.out))) : w.heap.size ≤ gb127)); have n3_ := Aside0.mk ((by rw [hg]; exact (below_size (by repeat (first | (with_reducible first | exact HB.out | apply below_alloc | apply pw_below_drewN | apply below_drew1) | exact HB.out))) : w.heap.size ≤ gb127)); clear HB; have HB := n0_; have BK127 := n1_; have GW127 := n2_; have GE127 := n3_; clear n0_ n1_ n2_ n3_; clear hb hbox hg; have hcz8_0 : w7.cell? ⟨gb127, 0, none⟩ = some (.int .i64 a0_0) := (blk_cell BK127.out 0).trans rfl; have hcz8_1 : w7.cell? ⟨gb127, 1, none⟩ = some (.int .i64 a0_1) := (blk_cell BK127.out 1).trans rfl; have hfz8_0 := blk_frozen BK127.out 0; have hfz8_1 := blk_frozen BK127.out 1))
  go_ret
  exact ⟨by first | rfl | (simp [errW_none, errW_some] <;> rfl) | (simp only [← hji2]; first | rfl | (simp [errW_none, errW_some] <;> rfl)) | (simp [*, errW_none, errW_some] <;> rfl), by repeat (first | (with_reducible first | exact HB.out | apply below_alloc | apply pw_below_drewN | apply below_drew1 | refine below_set ?_ GE127.out) | exact HB.out)⟩
def impl_readPath_1.f (a0_0 : Int) (a0_1 : Int) : Option (Bool) := (impl_point_isWithin.f a0_0 a0_1).bind fun t129 => (some (!t129))
set_option maxHeartbeats 8000000 in
set_option maxRecDepth 100000 in
theorem impl_readPath_1.calls (a0_0 : Int) (a0_1 : Int) (r : Bool) (w : World) (h : impl_readPath_1.f a0_0 a0_1 = some r) :
  Calls Tryd.prog 59 #[.agg #[.int .i64 a0_0, .int .i64 a0_1]] w fun e w' => e = .returned (.bool r) ∧ Below w.heap.size w w' := by
 have hu54 := Tryd.underlying54
 have HB := Aside0.mk (Below.refl w.heap.size w)
 have H : ((impl_point_isWithin.f a0_0 a0_1).bind fun t129 => (some (!t129))) = some r := h
 clear h
 replace H := Option.bind_eq_some_iff.mp H
 obtain ⟨t129, A20, H⟩ := H
 replace H : (some (!t129)) = some r := H
 have A2 := Aside0.mk A20
 clear A20
 obtain rfl := Option.some.inj H
 go_enter Tryd.func59, Tryd.ntmps59
 go_wp2_with (first | ((with_reducible refine gate_dst (N := 1) rfl ?_); refine box_event ?hg (N := 1) ?hd (cs := #[.int .i64 a0_0, .int .i64 a0_1]) (t := 54) ?hr ?_; (case hd => rfl); (case hg => rfl); (case hr => first | (go_simp; done) | (go_simp; rfl)); intro gb128 hg w3 hbox hb; have n0_ := Aside0.mk (below_step (by repeat (first | (with_reducible first | exact HB.out | apply below_alloc | apply pw_below_drewN | apply below_drew1) | exact HB.out)) hb); have n1_ := Aside0.mk (hbox); have n2_ := Aside0.mk ((by rw [hg]; exact (below_size (by repeat (first | (with_reducible first | exact HB.out | apply below_alloc | apply pw_below_drewN | apply below_drew1) | exact HB.out))) : w.heap.size ≤ gb128)); have n3_ := Aside0.mk ((by rw [hg]; exact (below_size (by repeat (first | (with_reducible first | exact HB.out | apply below_alloc | apply pw_below_drewN | apply below_drew1) | exact HB.out))) : w.heap.size ≤ gb128)); clear HB; have HB := n0_; have BK128 := n1_; have GW128 := n2_; have GE128 := n3_; clear n0_ n1_ n2_ n3_; clear hb hbox hg; have hcz4_0 : w3.cell? ⟨gb128, 0, none⟩ = some (.int .i64 a0_0) := (blk_cell BK128.out 0).trans rfl; have hcz4_1 : w3.cell? ⟨gb128, 1, none⟩ = some (.int .i64 a0_1) := (blk_cell BK128.out 1).trans rfl; have hfz4_0 := blk_frozen BK128.out 0; have hfz4_1 := blk_frozen BK128.out 1) | ((with_reducible refine gate_callee (f := 60) rfl ?_); refine goesL_ (some 4) rfl rfl Tryd.func60 (by kernel_rfl) rfl #[.agg #[.int .i64 a0_0, .int .i64 a0_1]] rfl (by (try simp only [List.map_toArray, List.map_cons, List.map_nil]); first | done | rfl | (simp only [List.length_drop, List.length_take]; rfl)) ?_; (with_reducible refine (impl_point_isWithin.calls a0_0 a0_1 t129 _ A2.out).mono ?_); rintro e w5 ⟨rfl, hb⟩; refine ⟨_, rfl, ?_⟩; have n0_ := Aside0.mk (blk_below (g := gb128) (o := .cells #[.int .i64 a0_0, .int .i64 a0_1] 54 (0, 0)) (by (with_reducible repeat (first | refine blk_drewN ?_ _ | refine blk_drew ?_ | refine blk_alloc ?_ _)); exact BK128.out) hb); have n1_ := Aside0.mk (below_step (by repeat (first | (with_reducible first | exact HB.out | apply below_alloc | apply pw_below_drewN | apply below_drew1 | refine below_set ?_ GE128.out) | exact HB.out)) hb); clear BK128; clear HB; have BK128 := n0_; have HB := n1_; clear n0_ n1_; (try clear hb); (try clear hb2); (try clear hk); (try clear hi)))
 go_ret
 exact ⟨by first | rfl | (simp [errW_none, errW_some] <;> rfl) | (simp [*, errW_none, errW_some] <;> rfl), by repeat (first | (with_reducible first | exact HB.out | apply below_alloc | apply pw_below_drewN | apply below_drew1 | refine below_set ?_ GE128.out) | exact HB.out)⟩
def slices_IndexFunc_impl_point_impl_point_at_impl_readPath_1.l0 : Nat → List (S54) → Int → Int → Option (Int)
  | 0, _, _, _ => none
  | k + 1, x0, x7, x8 => if x8 < x7 then (if 0 ≤ x8 then (if x8 < (x0.length : Int) then ((impl_readPath_1.f ((rd_T54 x0 x8).f0) ((rd_T54 x0 x8).f1)).bind fun t131 => (if t131 = true then (some x8) else (slices_IndexFunc_impl_point_impl_point_at_impl_readPath_1.l0 k x0 x7 (wrap64 (x8 + 1))))) else (none)) else (none)) else (some (-1))
def slices_IndexFunc_impl_point_impl_point_at_impl_readPath_1.f (k : Nat) (l0 : List (S54))  : Option (Int) := slices_IndexFunc_impl_point_impl_point_at_impl_readPath_1.l0 k l0 (l0.length : Int) 0
set_option maxHeartbeats 8000000 in
set_option maxRecDepth 100000 in
theorem slices_IndexFunc_impl_point_impl_point_at_impl_readPath_1.calls (k : Nat) (A0 : Option Addr) (c0 : Nat) (l0 : List (S54))  (r : Int) (w : World) (hr0 : Kd.C k54 w A0 l0.length l0) (hc0 : l0.length ≤ c0) (h : slices_IndexFunc_impl_point_impl_point_at_impl_readPath_1.f k l0 = some r) :
  Calls Tryd.prog 72 #[.slice A0 l0.length c0, .func (.func 59) #[] #[]] w fun e w' => e = .returned (.int .i64 r) ∧ Below w.heap.size w w' := by
 have hu54 := Tryd.underlying54
 have HR0 := Aside0.mk hr0
 have HC0 := Aside0.mk hc0
 clear hr0 hc0
 have HB := Aside0.mk (Below.refl w.heap.size w)
 have H : (slices_IndexFunc_impl_point_impl_point_at_impl_readPath_1.l0 k l0 (l0.length : Int) 0) = some r := h
 clear h
 have H' := Aside0.mk H
 clear H
 go_enter Tryd.func72, Tryd.ntmps72
 go_wp2
 go_loopg [8] k (fun kq v8 w' => ∃ (x8_1 : Int), v8 = .int .i64 x8_1 ∧ Aside0 (slices_IndexFunc_impl_point_impl_point_at_impl_readPath_1.l0 kq l0 (l0.length : Int) x8_1 = some r) ∧ Aside0 (kq ≤ k) ∧ Aside0 (Below w.heap.size w w'))
 case atStart => exact ⟨(0), (by first | rfl | (simp; done) | (simp [*]; done) | (generalize ByteArray.toList _ = l_; cases l_ <;> rfl)), H', ⟨Nat.le_refl _⟩, ⟨by repeat (first | (with_reducible first | exact HB.out | apply below_alloc | apply pw_below_drewN | apply below_drew1) | exact HB.out)⟩⟩
 case round =>
  clear H'
  try clear p2
  obtain ⟨x8_1, rfl, HA, HK1, HB⟩ := hrel
  cases gk with
  | zero => exact absurd HA.out (by simp [slices_IndexFunc_impl_point_impl_point_at_impl_readPath_1.l0])
  | succ k1 =>
   have H := HA.out
   clear HA
   simp only [slices_IndexFunc_impl_point_impl_point_at_impl_readPath_1.l0] at H
   by_cases c3 : x8_1 < (l0.length : Int)
   ·rw [if_pos c3] at H
    have c3b0 : decide (x8_1 < (l0.length : Int)) = true := decide_eq_true c3
    clear c3
    by_cases c4 : 0 ≤ x8_1
    ·rw [if_pos c4] at H
     have c4b0 : decide (0 ≤ x8_1) = true := decide_eq_true c4
     clear c4
     by_cases c5 : x8_1 < (l0.length : Int)
     ·rw [if_pos c5] at H
      have c5b0 : decide (x8_1 < (l0.length : Int)) = true := decide_eq_true c5
      clear c5
      replace H := Option.bind_eq_some_iff.mp H
      obtain ⟨t131, A60, H⟩ := H
      replace H : (if t131 = true then (some x8_1) else (slices_IndexFunc_impl_point_impl_point_at_impl_readPath_1.l0 k1 l0 (l0.length : Int) (wrap64 (x8_1 + 1)))) = some r := H
      have A6 := Aside0.mk A60
      clear A60
      by_cases c7 : t131 = true
      ·subst c7
       have H1 : (some x8_1) = some r := by rw [if_pos rfl] at H; exact H
       clear H
       have H := H1
       clear H1
       obtain rfl := Option.some.inj H
       have p130 : 0 ≤ (x8_1 : Int) := of_decide_eq_true (by first | (with_reducible assumption) | assumption)
       have q130 : x8_1 < (l0.length : Int) := of_decide_eq_true (by first | (with_reducible assumption) | assumption)
       obtain ⟨ad130, e130, hx130_0, hx130_1⟩ := at_T54 HR0.out x8_1 p130 q130
       cases e130
       replace hx130_0 := (HB.out.cell (World.block_lt_of_cell? w _ hx130_0)).trans hx130_0
       replace hx130_1 := (HB.out.cell (World.block_lt_of_cell? w _ hx130_1)).trans hx130_1
       replace p130 := eq_true p130
       replace q130 := eq_true q130
       go_wp2_with (first | (go_at_call 59; (with_reducible refine (impl_readPath_1.calls ((rd_T54 l0 x8_1).f0) ((rd_T54 l0 x8_1).f1) true _ A6.out).mono ?_); rintro e w8 ⟨rfl, hb⟩; have n0_ := Aside0.mk (below_step (by repeat (first | (with_reducible first | exact HB.out | apply below_alloc | apply pw_below_drewN | apply below_drew1) | exact HB.out)) hb); clear HB; have HB := n0_; clear n0_; (try clear hb); (try clear hb2); (try clear hk); (try clear hi)))
       go_ret
       exact ⟨by first | rfl | (simp [errW_none, errW_some] <;> rfl) | (simp [*, errW_none, errW_some] <;> rfl), by repeat (first | (with_reducible first | exact HB.out | apply below_alloc | apply pw_below_drewN | apply below_drew1) | exact HB.out)⟩
      ·replace c7 := Bool.eq_false_iff.mpr c7
       subst c7
       have H1 : (slices_IndexFunc_impl_point_impl_point_at_impl_readPath_1.l0 k1 l0 (l0.length : Int) (wrap64 (x8_1 + 1))) = some r := by rw [if_neg (show ¬ (false = true) by decide)] at H; exact H
       clear H
       have H := H1
       clear H1
       have H' := Aside0.mk H
       clear H
       have p130 : 0 ≤ (x8_1 : Int) := of_decide_eq_true (by first | (with_reducible assumption) | assumption)
       have q130 : x8_1 < (l0.length : Int) := of_decide_eq_true (by first | (with_reducible assumption) | assumption)
       obtain ⟨ad130, e130, hx130_0, hx130_1⟩ := at_T54 HR0.out x8_1 p130 q130
       cases e130
       replace hx130_0 := (HB.out.cell (World.block_lt_of_cell? w _ hx130_0)).trans hx130_0
       replace hx130_1 := (HB.out.cell (World.block_lt_of_cell? w _ hx130_1)).trans hx130_1
       replace p130 := eq_true p130
       replace q130 := eq_true q130
       go_wp2_with (first | (go_at_call 59; (with_reducible refine (impl_readPath_1.calls ((rd_T54 l0 x8_1).f0) ((rd_T54 l0 x8_1).f1) false _ A6.out).mono ?_); rintro e w9 ⟨rfl, hb⟩; have n0_ := Aside0.mk (below_step (by repeat (first | (with_reducible first | exact HB.out | apply below_alloc | apply pw_below_drewN | apply below_drew1) | exact HB.out)) hb); clear HB; have HB := n0_; clear n0_; (try clear hb); (try clear hb2); (try clear hk); (try clear hi)))
       go_roundg k1
       case measure => have := HK1.out; omega
       case rel => exact ⟨(wrap64 (x8_1 + 1)), (by first | rfl | (simp; done) | (simp [*]; done) | (generalize ByteArray.toList _ = l_; cases l_ <;> rfl)), H', ⟨by have := HK1.out; omega⟩, ⟨by repeat (first | (with_reducible first | exact HB.out | apply below_alloc | apply pw_below_drewN | apply below_drew1) | exact HB.out)⟩⟩
     ·rw [if_neg c5] at H
      exact absurd H (by simp)
    ·rw [if_neg c4] at H
     exact absurd H (by simp)
   ·rw [if_neg c3] at H
    have c3b0 : decide (x8_1 < (l0.length : Int)) = false := decide_eq_false c3
    clear c3
    obtain rfl := Option.some.inj H
    go_wp2
    go_ret
    exact ⟨by first | rfl | (simp [errW_none, errW_some] <;> rfl) | (simp [*, errW_none, errW_some] <;> rfl), by repeat (first | (with_reducible first | exact HB.out | apply below_alloc | apply pw_below_drewN | apply below_drew1) | exact HB.out)⟩
def slices_ContainsFunc_impl_point_impl_point_at_impl_readPath_1.f (k : Nat) (l0 : List (S54))  : Option (Bool) := (slices_IndexFunc_impl_point_impl_point_at_impl_readPath_1.f k l0).bind fun t132 => (some (decide (t132 ≥ 0)))
set_option maxHeartbeats 8000000 in
set_option maxRecDepth 100000 in
theorem slices_ContainsFunc_impl_point_impl_point_at_impl_readPath_1.calls (k : Nat) (A0 : Option Addr) (c0 : Nat) (l0 : List (S54))  (r : Bool) (w : World) (hr0 : Kd.C k54 w A0 l0.length l0) (hc0 : l0.length ≤ c0) (h : slices_ContainsFunc_impl_point_impl_point_at_impl_readPath_1.f k l0 = some r) :
  Calls Tryd.prog 58 #[.slice A0 l0.length c0, .func (.func 59) #[] #[]] w fun e w' => e = .returned (.bool r) ∧ Below w.heap.size w w' := by
 have HR0 := Aside0.mk hr0
 have HC0 := Aside0.mk hc0
 clear hr0 hc0
 have HB := Aside0.mk (Below.refl w.heap.size w)
 have H : ((slices_IndexFunc_impl_point_impl_point_at_impl_readPath_1.f k l0).bind fun t132 => (some (decide (t132 ≥ 0)))) = some r := h
 clear h
 replace H := Option.bind_eq_some_iff.mp H
 obtain ⟨t132, A30, H⟩ := H
 replace H : (some (decide (t132 ≥ 0))) = some r := H
 have A3 := Aside0.mk A30
 clear A30
 obtain rfl := Option.some.inj H
 go_enter Tryd.func58, Tryd.ntmps58
 go_wp2_with (first | ((with_reducible refine gate_callee (f := 72) rfl ?_); refine goesL_ (some 7) rfl rfl Tryd.func72 (by kernel_rfl) rfl #[.slice A0 l0.length c0, .func (.func 59) #[] #[]] rfl (by (try simp only [List.map_toArray, List.map_cons, List.map_nil]); first | done | rfl | (simp only [List.length_drop, List.length_take]; rfl)) ?_; (with_reducible refine (slices_IndexFunc_impl_point_impl_point_at_impl_readPath_1.calls k _ _ l0  t132 _ ?side1 ?side2 A3.out).mono ?_); (case side1 => repeat (first | exact HR0.out | (with_reducible refine Kd.C_alloc ?_ _) | (with_reducible refine Kd.C_drewN ?_ _) | (with_reducible refine Kd.C_drew ?_))); (case side2 => exact HC0.out); rintro e w4 ⟨rfl, hb⟩; refine ⟨_, rfl, ?_⟩; have n0_ := Aside0.mk (below_step (by repeat (first | (with_reducible first | exact HB.out | apply below_alloc | apply pw_below_drewN | apply below_drew1) | exact HB.out)) hb); clear HB; have HB := n0_; clear n0_; (try clear hb); (try clear hb2); (try clear hk); (try clear hi)))
 go_ret
 exact ⟨by first | rfl | (simp [errW_none, errW_some] <;> rfl) | (simp [*, errW_none, errW_some] <;> rfl), by repeat (first | (with_reducible first | exact HB.out | apply below_alloc | apply pw_below_drewN | apply below_drew1) | exact HB.out)⟩
def impl_readPath.j0 : Nat → ByteArray → Bool → Option ((List (S54)) × Bool)
  | 0, _, _ => none
  | k + 1, x0, x12 => if x12 = true then (some (([] : List (S54)), false)) else ((impl_pointsOf.f k x0).bind fun t134 => ((slices_ContainsFunc_impl_point_impl_point_at_impl_readPath_1.f k t134).bind fun t137 => (some (t134, !t137))))
def impl_readPath.f (k : Nat) (a0 : ByteArray) : Option ((List (S54)) × Bool) := if (a0.size : Int) > 400 then (impl_readPath.j0 k a0 true) else ((strings_Trim.f a0 (⟨#[108, 114, 117, 100]⟩ : ByteArray)).bind fun t133 => (impl_readPath.j0 k a0 (t133.toList != ([] : List UInt8))))
set_option maxHeartbeats 8000000 in
set_option maxRecDepth 100000 in
theorem impl_readPath.calls (k : Nat) (a0 : ByteArray) (r1 : List (S54)) (r2 : Bool) (w : World) (h : impl_readPath.f k a0 = some (r1, r2)) :
  Calls Tryd.prog 42 #[.string a0] w fun e w' => ∃ v0_ : Value, e = .returned (.tuple #[v0_, .bool r2]) ∧ Kd.R k54 54 w' w.heap.size (fun _ => True) v0_ r1 ∧ Below w.heap.size w w' := by
 have HB := Aside0.mk (Below.refl w.heap.size w)
 have H : (if (a0.size : Int) > 400 then (impl_readPath.j0 k a0 true) else ((strings_Trim.f a0 (⟨#[108, 114, 117, 100]⟩ : ByteArray)).bind fun t133 => (impl_readPath.j0 k a0 (t133.toList != ([] : List UInt8))))) = some (r1, r2) := h
 clear h
 have HC2 := Aside0.mk H
 clear H
 go_enter Tryd.func42, Tryd.ntmps42
 go_upto_region 1 with (fail)
 go_cut [12] (fun v12 wc => ∃ (kq : Nat) (x12_1 : Bool), v12 = .bool x12_1 ∧ Aside0 (impl_readPath.j0 kq a0 x12_1 = some (r1, r2)) ∧ Aside0 (kq ≤ k) ∧ Aside0 (Below w.heap.size w wc))
 case first =>
  have H := HC2.out
  clear HC2
  by_cases c3 : (a0.size : Int) > 400
  ·rw [if_pos c3] at H
   have c3b0 : decide (400 < (a0.size : Int)) = true := decide_eq_true c3
   have c3b1 : decide (400 < a0.size) = true := decide_eq_true (by omega)
   clear c3
   (first | rw [c3b0] | (simp only [i64_w, i32_w]; rw [c3b0]) | skip)
   have H' := Aside0.mk H
   clear H
   go_wp2
   go_meet
   case rel => exact ⟨_, (true), (by first | rfl | (simp; done) | (simp [*]; done) | (generalize ByteArray.toList _ = l_; cases l_ <;> rfl)), H', ⟨by first | omega | exact Nat.le_refl _⟩, ⟨by repeat (first | (with_reducible first | exact HB.out | apply below_alloc | apply pw_below_drewN | apply below_drew1) | exact HB.out)⟩⟩
  ·rw [if_neg c3] at H
   have c3b0 : decide (400 < (a0.size : Int)) = false := decide_eq_false c3
   have c3b1 : decide (400 < a0.size) = false := decide_eq_false (by omega)
   clear c3
   (first | rw [c3b0] | (simp only [i64_w, i32_w]; rw [c3b0]) | skip)
   replace H := Option.bind_eq_some_iff.mp H
   obtain ⟨t133, A40, H⟩ := H
   replace H : (impl_readPath.j0 k a0 (t133.toList != ([] : List UInt8))) = some (r1, r2) := H
   have A4 := Aside0.mk A40
   clear A40
   have H' := Aside0.mk H
   clear H
   go_wp2_with (first | (go_at_call 56; (with_reducible refine (strings_Trim.calls a0 (⟨#[108, 114, 117, 100]⟩ : ByteArray) t133 _ A4.out).mono ?_); rintro e w5 ⟨rfl, hb⟩; have n0_ := Aside0.mk (below_step (by repeat (first | (with_reducible first | exact HB.out | apply below_alloc | apply pw_below_drewN | apply below_drew1) | exact HB.out)) hb); clear HB; have HB := n0_; clear n0_; (try clear hb); (try clear hb2); (try clear hk); (try clear hi)))
   go_meet
   case rel => exact ⟨_, ((t133.toList != ([] : List UInt8))), (by first | rfl | (simp; done) | (simp [*]; done) | (generalize ByteArray.toList _ = l_; cases l_ <;> rfl)), H', ⟨by first | omega | exact Nat.le_refl _⟩, ⟨by repeat (first | (with_reducible first | exact HB.out | apply below_alloc | apply pw_below_drewN | apply below_drew1) | exact HB.out)⟩⟩
 case rest =>
  clear HC2
  try clear p2
  try clear c3
  try clear c3b0
  try clear c3b1
  try clear c4
  obtain ⟨kq, x12_1, rfl, HA, HJ1, HB⟩ := hcut
  cases kq with
  | zero => exact absurd HA.out (by simp [impl_readPath.j0])
  | succ kj1 =>
   have H := HA.out
   clear HA
   simp only [impl_readPath.j0] at H
   by_cases c6 : x12_1 = true
   ·subst c6
    have H1 : (some (([] : List (S54)), false)) = some (r1, r2) := by rw [if_pos rfl] at H; exact H
    clear H
    have H := H1
    clear H1
    simp only [Option.some.injEq, Prod.mk.injEq] at H
    obtain ⟨rfl, rfl⟩ := H
    go_wp2
    go_ret2
    exact ⟨_, by first | rfl | (simp [errW_none, errW_some] <;> rfl) | (simp [*, errW_none, errW_some] <;> rfl), by first | exact Kd.R_nil _ _ _ _ _ | exact Kd.N_nil _ _ _ _ _ | exact Kd.V_nil _ _ _ _ _ | exact Kd.Q_nil _ _ _ _ _ | exact Kd.S_nil _ _ _ _ _, by repeat (first | (with_reducible first | exact HB.out | apply below_alloc | apply pw_below_drewN | apply below_drew1) | exact HB.out)⟩
   ·replace c6 := Bool.eq_false_iff.mpr c6
    subst c6
    have H1 : ((impl_pointsOf.f kj1 a0).bind fun t134 => ((slices_ContainsFunc_impl_point_impl_point_at_impl_readPath_1.f kj1 t134).bind fun t137 => (some (t134, !t137)))) = some (r1, r2) := by rw [if_neg (show ¬ (false = true) by decide)] at H; exact H
    clear H
    have H := H1
    clear H1
    replace H := Option.bind_eq_some_iff.mp H
    obtain ⟨t134, A70, H⟩ := H
    replace H : ((slices_ContainsFunc_impl_point_impl_point_at_impl_readPath_1.f kj1 t134).bind fun t137 => (some (t134, !t137))) = some (r1, r2) := H
    have A7 := Aside0.mk A70
    clear A70
    replace H := Option.bind_eq_some_iff.mp H
    obtain ⟨t137, A80, H⟩ := H
    replace H : (some (t134, !t137)) = some (r1, r2) := H
    have A8 := Aside0.mk A80
    clear A80
    simp only [Option.some.injEq, Prod.mk.injEq] at H
    obtain ⟨rfl, rfl⟩ := H
    go_wp2_with (first | ((with_reducible refine gate_callee (f := 57) rfl ?_); refine goesL_ (some 14) rfl rfl Tryd.func57 (by kernel_rfl) rfl #[.string a0] rfl (by (try simp only [List.map_toArray, List.map_cons, List.map_nil]); first | done | rfl | (simp only [List.length_drop, List.length_take]; rfl)) ?_; (with_reducible refine (impl_pointsOf.calls kj1 a0 t134 _ A7.out).mono ?_); rintro e w9 ⟨v135, rfl, ho0, hb⟩; refine ⟨_, rfl, ?_⟩; have n0_ := Aside0.mk (Kd.R_lower ho0 (below_size (by repeat (first | (with_reducible first | exact HB.out | apply below_alloc | apply pw_below_drewN | apply below_drew1) | exact HB.out)))); have n1_ := Aside0.mk (below_step (by repeat (first | (with_reducible first | exact HB.out | apply below_alloc | apply pw_below_drewN | apply below_drew1) | exact HB.out)) hb); clear HB; have HO136 := n0_; have HB := n1_; clear n0_ n1_; (try clear hb); (try clear hb2); (try clear hk); (try clear hi); (try clear ho0); obtain ⟨Ao10, co10, eo10⟩ := Kd.R_slice HO136.out; subst eo10) | ((with_reducible refine gate_callee (f := 58) rfl ?_); refine goesL_ (some 17) rfl rfl Tryd.func58 (by kernel_rfl) rfl #[.slice Ao10 t134.length co10, .func (.func 59) #[] #[]] rfl (by (try simp only [List.map_toArray, List.map_cons, List.map_nil]); first | done | rfl | (simp only [List.length_drop, List.length_take]; rfl)) ?_; (with_reducible refine (slices_ContainsFunc_impl_point_impl_point_at_impl_readPath_1.calls kj1 _ _ t134  t137 _ ?side1 ?side2 A8.out).mono ?_); (case side1 => repeat (first | exact (Kd.R_reads' HO136.out).2.2 | (with_reducible refine Kd.C_alloc ?_ _) | (with_reducible refine Kd.C_drewN ?_ _) | (with_reducible refine Kd.C_drew ?_))); (case side2 => exact (Kd.R_reads' HO136.out).2.1); rintro e w11 ⟨rfl, hb⟩; refine ⟨_, rfl, ?_⟩; have n0_ := Aside0.mk (Kd.R_below (by (with_reducible repeat (first | apply Kd.R_alloc | apply Kd.R_drewN | apply Kd.R_drew)); exact HO136.out) hb); have n1_ := Aside0.mk (below_step (by repeat (first | (with_reducible first | exact HB.out | apply below_alloc | apply pw_below_drewN | apply below_drew1) | exact HB.out)) hb); clear HO136; clear HB; have HO136 := n0_; have HB := n1_; clear n0_ n1_; (try clear hb); (try clear hb2); (try clear hk); (try clear hi)))
    go_ret2
    exact ⟨_, by first | rfl | (simp [errW_none, errW_some] <;> rfl) | (simp [*, errW_none, errW_some] <;> rfl), by (with_reducible repeat (first | apply Kd.R_alloc | apply Kd.R_drewN | apply Kd.R_drew)); exact HO136.out, by repeat (first | (with_reducible first | exact HB.out | apply below_alloc | apply pw_below_drewN | apply below_drew1) | exact HB.out)⟩
end Go.Proofs.YtckmmpknaengjaaDoor.Px
end
section
namespace Go.Proofs.YtckmmpknaengjaaDoor.Px
end Go.Proofs.YtckmmpknaengjaaDoor.Px
namespace Go.Proofs.YtckmmpknaengjaaDoor.Giv
end Go.Proofs.YtckmmpknaengjaaDoor.Giv
namespace Go.Proofs.YtckmmpknaengjaaDoor.Px
open Go.Proofs.YtckmmpknaengjaaDoor.Giv
open Go.RowKit Go.Proofs.YtckmmpknaengjaaDoorW.PrintWords Go.Proofs.YtckmmpknaengjaaDoorW.PrintLast Go.Proofs.YtckmmpknaengjaaDoorW.PrintMore
attribute [local go_sem] max2_int min2_int max_two min_two max_three min_three max_four min_four
set_option linter.unusedVariables false
set_option linter.unusedSimpArgs false
def impl_IsPath.f (k : Nat) (a0 : ByteArray) : Option (Bool) := (impl_readPath.f k a0).bind fun bt138 => (some bt138.2)
set_option maxHeartbeats 8000000 in
set_option maxRecDepth 100000 in
theorem impl_IsPath.calls (k : Nat) (a0 : ByteArray) (r : Bool) (w : World) (h : impl_IsPath.f k a0 = some r) :
  Calls Tryd.prog 15 #[.string a0] w fun e w' => e = .returned (.bool r) ∧ Below w.heap.size w w' := by
 have HB := Aside0.mk (Below.refl w.heap.size w)
 have H : ((impl_readPath.f k a0).bind fun bt138 => (some bt138.2)) = some r := h
 clear h
 replace H := Option.bind_eq_some_iff.mp H
 obtain ⟨⟨t138, t139⟩, A20, H⟩ := H
 replace H : (some t139) = some r := H
 have A2 := Aside0.mk A20
 clear A20
 obtain rfl := Option.some.inj H
 go_enter Tryd.func15, Tryd.ntmps15
 go_wp2_with (first | ((with_reducible refine gate_callee (f := 42) rfl ?_); refine goesL_ (some 7) rfl rfl Tryd.func42 (by kernel_rfl) rfl #[.string a0] rfl (by (try simp only [List.map_toArray, List.map_cons, List.map_nil]); first | done | rfl | (simp only [List.length_drop, List.length_take]; rfl)) ?_; (with_reducible refine (impl_readPath.calls k a0 t138 t139 _ A2.out).mono ?_); rintro e w3 ⟨v140, rfl, ho0, hb⟩; refine ⟨_, rfl, ?_⟩; have n0_ := Aside0.mk (Kd.R_lower ho0 (below_size (by repeat (first | (with_reducible first | exact HB.out | apply below_alloc | apply pw_below_drewN | apply below_drew1) | exact HB.out)))); have n1_ := Aside0.mk (below_step (by repeat (first | (with_reducible first | exact HB.out | apply below_alloc | apply pw_below_drewN | apply below_drew1) | exact HB.out)) hb); clear HB; have HO141 := n0_; have HB := n1_; clear n0_ n1_; (try clear hb); (try clear hb2); (try clear hk); (try clear hi); (try clear ho0)))
 go_ret
 exact ⟨by first | rfl | (simp [errW_none, errW_some] <;> rfl) | (simp [*, errW_none, errW_some] <;> rfl), by repeat (first | (with_reducible first | exact HB.out | apply below_alloc | apply pw_below_drewN | apply below_drew1) | exact HB.out)⟩
end Go.Proofs.YtckmmpknaengjaaDoor.Px
end
section
namespace Go.Proofs.YtckmmpknaengjaaDoor.Px
end Go.Proofs.YtckmmpknaengjaaDoor.Px
namespace Go.Proofs.YtckmmpknaengjaaDoor.Giv
end Go.Proofs.YtckmmpknaengjaaDoor.Giv
namespace Go.Proofs.YtckmmpknaengjaaDoor.Px
open Go.Proofs.YtckmmpknaengjaaDoor.Giv
open Go.RowKit Go.Proofs.YtckmmpknaengjaaDoorW.PrintWords Go.Proofs.YtckmmpknaengjaaDoorW.PrintLast Go.Proofs.YtckmmpknaengjaaDoorW.PrintMore
attribute [local go_sem] max2_int min2_int max_two min_two max_three min_three max_four min_four
set_option linter.unusedVariables false
set_option linter.unusedSimpArgs false
def impl_opposite.f (a0 : Int) : Option (Int) := (strings_IndexByte.f (⟨#[108, 114, 117, 100]⟩ : ByteArray) a0).bind fun t234 => (if 0 ≤ t234 then (if t234 < 4 then (some (bt (⟨#[114, 108, 100, 117]⟩ : ByteArray) t234)) else (none)) else (none))
set_option maxHeartbeats 8000000 in
set_option maxRecDepth 100000 in
theorem impl_opposite.calls (a0 : Int) (r : Int) (w : World) (h : impl_opposite.f a0 = some r) :
  Calls Tryd.prog 47 #[.int .u8 a0] w fun e w' => e = .returned (.int .u8 r) ∧ Drawn0 w w' := by
 have H : ((strings_IndexByte.f (⟨#[108, 114, 117, 100]⟩ : ByteArray) a0).bind fun t234 => (if 0 ≤ t234 then (if t234 < 4 then (some (bt (⟨#[114, 108, 100, 117]⟩ : ByteArray) t234)) else (none)) else (none))) = some r := h
 clear h
 replace H := Option.bind_eq_some_iff.mp H
 obtain ⟨t234, A20, H⟩ := H
 replace H : (if 0 ≤ t234 then (if t234 < 4 then (some (bt (⟨#[114, 108, 100, 117]⟩ : ByteArray) t234)) else (none)) else (none)) = some r := H
 have A2 := Aside0.mk A20
 clear A20
 by_cases c3 : 0 ≤ t234
 ·rw [if_pos c3] at H
  have c3b0 : decide (0 ≤ t234) = true := decide_eq_true c3
  clear c3
  by_cases c4 : t234 < 4
  ·rw [if_pos c4] at H
   have c4b0 : decide (t234 < 4) = true := decide_eq_true c4
   clear c4
   obtain rfl := Option.some.inj H
   go_enter Tryd.func47, Tryd.ntmps47
   go_wp2_with (first | ((with_reducible refine gate_callee (f := 61) rfl ?_); refine goesL_ (some 4) rfl rfl Tryd.func61 (by kernel_rfl) rfl #[.string (⟨#[108, 114, 117, 100]⟩ : ByteArray), .int .u8 a0] rfl (by (try simp only [List.map_toArray, List.map_cons, List.map_nil]); first | done | rfl | (simp only [List.length_drop, List.length_take]; rfl)) ?_; (with_reducible refine (strings_IndexByte.calls (⟨#[108, 114, 117, 100]⟩ : ByteArray) a0 t234 _ A2.out).mono ?_); rintro e w' ⟨rfl, ⟨nd, rfl⟩⟩; refine ⟨_, rfl, ?_⟩; have p5 : 0 ≤ (t234 : Int) := of_decide_eq_true (by first | (with_reducible assumption) | assumption); have q5 : t234 < (4 : Int) := of_decide_eq_true (by first | (with_reducible assumption) | assumption); have hx5 := bt_at (⟨#[114, 108, 100, 117]⟩ : ByteArray) t234; replace p5 := eq_true p5; replace q5 := eq_true q5))
   go_ret
   exact ⟨by first | rfl | (simp; done) | (simp [*]; done), by repeat (first | exact Drawn0.refl _ | apply Drawn0.step)⟩
  ·rw [if_neg c4] at H
   exact absurd H (by simp)
 ·rw [if_neg c3] at H
  exact absurd H (by simp)
end Go.Proofs.YtckmmpknaengjaaDoor.Px
end
section
namespace Go.Proofs.YtckmmpknaengjaaDoor.Giv
set_option linter.unusedVariables false
set_option linter.unusedSimpArgs false
open Go.RowKit Go.Proofs.YtckmmpknaengjaaDoorW.PrintWords Go.Proofs.YtckmmpknaengjaaDoorW.PrintLast Go.Proofs.YtckmmpknaengjaaDoorW.PrintMore Go.Proofs.YtckmmpknaengjaaDoor.Px
def flipB (b : Int) : Int := if b = 117 then 100 else if b = 100 then 117 else b
theorem flip_set (f : Int → Int) (l : List Int) (i : Nat) (h : i < l.length) : ((l.take i).map f ++ l.drop i).set i (f (l.getD i 0)) = (l.take (i + 1)).map f ++ l.drop (i + 1) := by
  have hl : ((l.take i).map f).length = i := by rw [List.length_map, List.length_take]; omega
  rw [List.set_append_right _ _ (by omega), hl, Nat.sub_self, List.drop_eq_getElem_cons h, List.set_cons_zero, List.take_succ_eq_append_getElem h, List.map_append, List.append_assoc, List.getD_eq_getElem?_getD, List.getElem?_eq_getElem h]
  rfl
theorem flip_stay (f : Int → Int) (l : List Int) (i : Nat) (h : i < l.length) (hf : f (l.getD i 0) = l.getD i 0) : (l.take i).map f ++ l.drop i = (l.take (i + 1)).map f ++ l.drop (i + 1) := by
  rw [← flip_set f l i h, hf]
  have hl : ((l.take i).map f).length = i := by rw [List.length_map, List.length_take]; omega
  rw [List.set_append_right _ _ (by omega), hl, Nat.sub_self, List.drop_eq_getElem_cons h, List.set_cons_zero, List.getD_eq_getElem?_getD, List.getElem?_eq_getElem h]
  rfl
theorem flip_at (f : Int → Int) (l : List Int) (i : Nat) (h : i < l.length) : ((l.take i).map f ++ l.drop i).getD i 0 = l.getD i 0 := by
  have hl : ((l.take i).map f).length = i := by rw [List.length_map, List.length_take]; omega
  rw [List.getD_eq_getElem?_getD, List.getElem?_append_right (by omega), hl, Nat.sub_self, List.getElem?_drop, Nat.add_zero, List.getD_eq_getElem?_getD]
theorem flip_len (f : Int → Int) (l : List Int) (i : Nat) (h : i ≤ l.length) : ((l.take i).map f ++ l.drop i).length = l.length := by
  rw [List.length_append, List.length_map, List.length_take, List.length_drop]; omega
def impl_FlipPath.f (k : Nat) (a0 : ByteArray) : Option (ByteArray × Bool) := (impl_IsPath.f k a0).bind fun t => if t = true then (if a0.size ≤ 1000000 then some (strOfNums ((bytesOf a0).map flipB), true) else none) else some (⟨#[]⟩, false)
theorem opp_u : impl_opposite.f 117 = some 100 := by decide +kernel
theorem opp_d : impl_opposite.f 100 = some 117 := by decide +kernel
set_option maxHeartbeats 4000000 in
theorem impl_FlipPath.calls (k : Nat) (a0 : ByteArray) (r1 : ByteArray) (r2 : Bool) (w : World) (h : impl_FlipPath.f k a0 = some (r1, r2)) :
    Calls Tryd.prog 27 #[.string a0] w fun e w' => e = .returned (.tuple #[.string r1, .bool r2]) ∧ Below w.heap.size w w' := by
  unfold impl_FlipPath.f at h
  obtain ⟨ok, h1, h⟩ := Option.bind_eq_some_iff.1 h
  cases ok with
  | false =>
    simp only [Bool.false_eq_true, if_false, Option.some.injEq, Prod.mk.injEq] at h
    obtain ⟨rfl, rfl⟩ := h
    go_enter Tryd.func27, Tryd.ntmps27
    go_wp2_with (first | (go_at_call 15; refine (impl_IsPath.calls k a0 false _ h1).mono ?_; rintro e w1 ⟨rfl, hb⟩))
    go_ret2
    exact ⟨rfl, hb⟩
  | true =>
    simp only [if_true] at h
    split at h
    · rename_i hs
      simp only [Option.some.injEq, Prod.mk.injEq] at h
      obtain ⟨rfl, rfl⟩ := h
      have hlen : (bytesOf a0).length = a0.size := bytesOf_length a0
      go_enter Tryd.func27, Tryd.ntmps27
      go_wp2_with (first | (go_at_call 15; refine (impl_IsPath.calls k a0 true _ h1).mono ?_; rintro e w2 ⟨rfl, hb⟩; obtain ⟨z, cap, w3, hconv, hrow, hb3⟩ := conv_bytes (P := Tryd.prog) w2 9 57 5 a0 Tryd.underlying9 Tryd.underlying57 Tryd.underlying5))
      have hB3 := below_step hb hb3
      have hg : w.heap.size ≤ w2.heap.size := below_size hb
      clear hconv hb3
      go_loopw [14] (fun v w' => ∃ i : Nat, v = .int .i64 (i : Int) ∧ Aside0 (i ≤ a0.size) ∧ Aside0 (BRow w' w2.heap.size 5 (((bytesOf a0).take i).map flipB ++ (bytesOf a0).drop i) z) ∧ Aside0 (Below w.heap.size w w')) (fun v w' => a0.size - (intOf v).toNat)
      case atStart => exact ⟨0, rfl, ⟨Nat.zero_le _⟩, ⟨by simpa using hrow⟩, ⟨hB3⟩⟩
      case round =>
        obtain ⟨i, rfl, ⟨hi⟩, ⟨hr⟩, ⟨hB⟩⟩ := hrel
        have hn : i ≤ (bytesOf a0).length := by rw [hlen]; exact hi
        by_cases hlt : i < a0.size
        · have hl2 : i < (bytesOf a0).length := by rw [hlen]; exact hlt
          have hl3 : i < (((bytesOf a0).take i).map flipB ++ (bytesOf a0).drop i).length := by rw [flip_len _ _ _ hn]; exact hl2
          have c0 := hr.cell i hl3
          have z0 := hr.frozen i hl3
          have hat : (bytesOf a0).getD i 0 = bt a0 (i : Int) := rd_bytesOf a0 (i : Int)
          rw [flip_at flipB (bytesOf a0) i hl2, hat] at c0
          have q1 : decide ((i : Int) < (a0.size : Int)) = true := decide_eq_true (by omega)
          have q2 : (0 ≤ (i : Int)) = True := eq_true (by omega)
          have q3 : ((i : Int) < (a0.size : Int)) = True := eq_true (by omega)
          have q4 : (i < a0.size) = True := eq_true hlt
          have hw : wrap64 ((i : Int) + 1) = ((i + 1 : Nat) : Int) := by unfold wrap64; omega
          by_cases hq : bt a0 (i : Int) = 117
          · rw [hq] at c0
            have hl_ : (((bytesOf a0).take i).map flipB ++ (bytesOf a0).drop i).set i 100 = ((bytesOf a0).take (i + 1)).map flipB ++ (bytesOf a0).drop (i + 1) := by
              have h_ := flip_set flipB (bytesOf a0) i hl2
              rw [hat, hq] at h_
              exact h_
            clear hat hq
            go_wp2_with (first | (go_at_call 47; refine (impl_opposite.calls 117 100 _ opp_u).mono ?_; rintro e w5 ⟨rfl, ⟨nd, rfl⟩⟩))
            refine ⟨⟨i + 1, rfl, ⟨hlt⟩, ⟨?_⟩, ⟨below_set (pw_below_drewN hB nd) hg⟩⟩, ?_⟩
            · have h_ := (hr.drewN nd).set i hl3 100
              rw [hl_] at h_
              exact h_
            · simp only [intOf]
              omega
          · by_cases hq2 : bt a0 (i : Int) = 100
            · rw [hq2] at c0
              have hl_ : (((bytesOf a0).take i).map flipB ++ (bytesOf a0).drop i).set i 117 = ((bytesOf a0).take (i + 1)).map flipB ++ (bytesOf a0).drop (i + 1) := by
                have h_ := flip_set flipB (bytesOf a0) i hl2
                rw [hat, hq2] at h_
                exact h_
              clear hat hq hq2
              go_wp2_with (first | (go_at_call 47; refine (impl_opposite.calls 100 117 _ opp_d).mono ?_; rintro e w5 ⟨rfl, ⟨nd, rfl⟩⟩))
              refine ⟨⟨i + 1, rfl, ⟨hlt⟩, ⟨?_⟩, ⟨below_set (pw_below_drewN hB nd) hg⟩⟩, ?_⟩
              · have h_ := (hr.drewN nd).set i hl3 117
                rw [hl_] at h_
                exact h_
              · simp only [intOf]
                omega
            · have hl_ : (((bytesOf a0).take i).map flipB ++ (bytesOf a0).drop i) = ((bytesOf a0).take (i + 1)).map flipB ++ (bytesOf a0).drop (i + 1) := flip_stay flipB (bytesOf a0) i hl2 (by rw [hat]; unfold flipB; rw [if_neg hq, if_neg hq2])
              have n1 : (bt a0 (i : Int) == 117) = false := beq_eq_false_iff_ne.mpr hq
              have n2 : (bt a0 (i : Int) == 100) = false := beq_eq_false_iff_ne.mpr hq2
              clear hat hq hq2
              generalize bt a0 (i : Int) = b at c0 n1 n2
              go_wp2
              refine ⟨⟨i + 1, rfl, ⟨hlt⟩, ⟨?_⟩, ⟨hB⟩⟩, ?_⟩
              · rw [← hl_]; exact hr
              · simp only [intOf]
                omega
        · have q1 : decide ((i : Int) < (a0.size : Int)) = false := decide_eq_false (by omega)
          obtain rfl : i = a0.size := by omega
          have hl_ : ((bytesOf a0).take a0.size).map flipB ++ (bytesOf a0).drop a0.size = (bytesOf a0).map flipB := by
            rw [← hlen, List.take_length, List.drop_length, List.append_nil]
          rw [hl_] at hr
          have hback := hr.string (P := Tryd.prog) 57 9 a0.size cap (by rw [List.length_map, hlen]) (by rw [List.length_map, hlen]; omega) Tryd.underlying57 Tryd.underlying5 Tryd.underlying9
          clear hr hl_
          go_wp2
          go_ret2
          exact ⟨rfl, hB⟩
    · cases h
end Go.Proofs.YtckmmpknaengjaaDoor.Giv
end
section
namespace Go.Proofs.YtckmmpknaengjaaDoor.Px
end Go.Proofs.YtckmmpknaengjaaDoor.Px
namespace Go.Proofs.YtckmmpknaengjaaDoor.Giv
end Go.Proofs.YtckmmpknaengjaaDoor.Giv
namespace Go.Proofs.YtckmmpknaengjaaDoor.Px
open Go.Proofs.YtckmmpknaengjaaDoor.Giv
open Go.RowKit Go.Proofs.YtckmmpknaengjaaDoorW.PrintWords Go.Proofs.YtckmmpknaengjaaDoorW.PrintLast Go.Proofs.YtckmmpknaengjaaDoorW.PrintMore
attribute [local go_sem] max2_int min2_int max_two min_two max_three min_three max_four min_four
set_option linter.unusedVariables false
set_option linter.unusedSimpArgs false
def laws_FnExactFlipPath.f (k : Nat) (a0 : ByteArray) : Option (Bool) := if (a0.size : Int) > 1048576 then (some true) else ((spec_FlipPath.f k a0).bind fun bt228 => ((impl_FlipPath.f k a0).bind fun bt230 => (if bt230.1.toList = bt228.1.toList then (if (bt230.2 != bt228.2) = true then (some false) else (some true)) else (some false))))
set_option maxHeartbeats 8000000 in
set_option maxRecDepth 100000 in
theorem laws_FnExactFlipPath.calls (k : Nat) (a0 : ByteArray) (w : World) (h : laws_FnExactFlipPath.f k a0 = some true) :
  Calls Tryd.prog 8 #[.string a0] w fun e w' => e = .returned (.bool true) ∧ Below w.heap.size w w' := by
 have HB := Aside0.mk (Below.refl w.heap.size w)
 have H : (if (a0.size : Int) > 1048576 then (some true) else ((spec_FlipPath.f k a0).bind fun bt228 => ((impl_FlipPath.f k a0).bind fun bt230 => (if bt230.1.toList = bt228.1.toList then (if (bt230.2 != bt228.2) = true then (some false) else (some true)) else (some false))))) = some true := h
 clear h
 by_cases c2 : (a0.size : Int) > 1048576
 ·rw [if_pos c2] at H
  have c2b0 : decide (1048576 < (a0.size : Int)) = true := decide_eq_true c2
  have c2b1 : decide (1048576 < a0.size) = true := decide_eq_true (by omega)
  clear c2
  clear H
  go_enter Tryd.func8, Tryd.ntmps8
  go_wp2
  go_ret
  exact ⟨by first | rfl | (simp [errW_none, errW_some] <;> rfl) | (simp [*, errW_none, errW_some] <;> rfl), by repeat (first | (with_reducible first | exact HB.out | apply below_alloc | apply pw_below_drewN | apply below_drew1) | exact HB.out)⟩
 ·rw [if_neg c2] at H
  have c2b0 : decide (1048576 < (a0.size : Int)) = false := decide_eq_false c2
  have c2b1 : decide (1048576 < a0.size) = false := decide_eq_false (by omega)
  clear c2
  replace H := Option.bind_eq_some_iff.mp H
  obtain ⟨⟨t228, t229⟩, A30, H⟩ := H
  replace H : ((impl_FlipPath.f k a0).bind fun bt230 => (if bt230.1.toList = t228.toList then (if (bt230.2 != t229) = true then (some false) else (some true)) else (some false))) = some true := H
  have A3 := Aside0.mk A30
  clear A30
  replace H := Option.bind_eq_some_iff.mp H
  obtain ⟨⟨t230, t231⟩, A40, H⟩ := H
  replace H : (if t230.toList = t228.toList then (if (t231 != t229) = true then (some false) else (some true)) else (some false)) = some true := H
  have A4 := Aside0.mk A40
  clear A40
  by_cases c5 : t230.toList = t228.toList
  ·rw [if_pos c5] at H
   have c5b0 : (t230.toList == t228.toList) = true := beq_iff_eq.mpr c5
   have c5b1 : (t230.toList != t228.toList) = false := bne_eq_false_iff_eq.mpr c5
   clear c5
   by_cases c6 : (t231 != t229) = true
   ·rw [if_pos c6] at H
    have c6b0 : (t231 != t229) = true := c6
    (try (have c6b1 : decide (t231 = t229) = false := by simpa using c6))
    (try (have c6b2 : (t231 == t229) = false := by simpa using c6))
    (try (have c6b3 : ¬ (t231 = t229) := by simpa using c6))
    clear c6
    exact absurd H (by simp)
   ·rw [if_neg c6] at H
    have c6b0 : (t231 != t229) = false := by simpa using c6
    (try (have c6b1 : decide (t231 = t229) = true := by simpa using c6))
    (try (have c6b2 : (t231 == t229) = true := by simpa using c6))
    clear c6
    clear H
    go_enter Tryd.func8, Tryd.ntmps8
    go_wp2_with (first | ((with_reducible refine gate_callee (f := 26) rfl ?_); refine goesL_ (some 12) rfl rfl Tryd.func26 (by kernel_rfl) rfl #[.string a0] rfl (by (try simp only [List.map_toArray, List.map_cons, List.map_nil]); first | done | rfl | (simp only [List.length_drop, List.length_take]; rfl)) ?_; (with_reducible refine (spec_FlipPath.calls k a0 t228 t229 _ A3.out).mono ?_); rintro e w9 ⟨rfl, hb⟩; refine ⟨_, rfl, ?_⟩; have n0_ := Aside0.mk (below_step (by repeat (first | (with_reducible first | exact HB.out | apply below_alloc | apply pw_below_drewN | apply below_drew1) | exact HB.out)) hb); clear HB; have HB := n0_; clear n0_; (try clear hb); (try clear hb2); (try clear hk); (try clear hi)) | ((with_reducible refine gate_callee (f := 27) rfl ?_); refine goesL_ (some 17) rfl rfl Tryd.func27 (by kernel_rfl) rfl #[.string a0] rfl (by (try simp only [List.map_toArray, List.map_cons, List.map_nil]); first | done | rfl | (simp only [List.length_drop, List.length_take]; rfl)) ?_; (with_reducible refine (impl_FlipPath.calls k a0 t230 t231 _ A4.out).mono ?_); rintro e w10 ⟨rfl, hb⟩; refine ⟨_, rfl, ?_⟩; have n0_ := Aside0.mk (below_step (by repeat (first | (with_reducible first | exact HB.out | apply below_alloc | apply pw_below_drewN | apply below_drew1) | exact HB.out)) hb); clear HB; have HB := n0_; clear n0_; (try clear hb); (try clear hb2); (try clear hk); (try clear hi)))
    go_ret
    exact ⟨by first | rfl | (simp [errW_none, errW_some] <;> rfl) | (simp [*, errW_none, errW_some] <;> rfl), by repeat (first | (with_reducible first | exact HB.out | apply below_alloc | apply pw_below_drewN | apply below_drew1) | exact HB.out)⟩
  ·rw [if_neg c5] at H
   have c5b0 : (t230.toList == t228.toList) = false := beq_eq_false_iff_ne.mpr c5
   have c5b1 : (t230.toList != t228.toList) = true := bne_iff_ne.mpr c5
   exact absurd H (by simp)
def laws_FnExactFlipPath.Pure : Prop := ∀ (a0 : ByteArray), a0.size ≤ maxLen → ∃ k, laws_FnExactFlipPath.f k a0 = some true
theorem laws_FnExactFlipPath.walk (P : laws_FnExactFlipPath.Pure) (a0 : ByteArray) (w : World) (w0 : a0.size ≤ maxLen) :
  Calls Tryd.prog 8 #[.string a0] w fun e w' => e = .returned (.bool true) ∧ Below w.heap.size w w' := by
 obtain ⟨k, h⟩ := P a0 w0
 refine (laws_FnExactFlipPath.calls k a0 w h).mono ?_
 rintro e w' ⟨rfl, hd⟩
 exact ⟨rfl, hd⟩
end Go.Proofs.YtckmmpknaengjaaDoor.Px
end
section
namespace Go.Proofs.YtckmmpknaengjaaDoor.Px
end Go.Proofs.YtckmmpknaengjaaDoor.Px
namespace Go.Proofs.YtckmmpknaengjaaDoor.Giv
end Go.Proofs.YtckmmpknaengjaaDoor.Giv
namespace Go.Proofs.YtckmmpknaengjaaDoor.Px
open Go.Proofs.YtckmmpknaengjaaDoor.Giv
open Go.RowKit Go.Proofs.YtckmmpknaengjaaDoorW.PrintWords Go.Proofs.YtckmmpknaengjaaDoorW.PrintLast Go.Proofs.YtckmmpknaengjaaDoorW.PrintMore
attribute [local go_sem] max2_int min2_int max_two min_two max_three min_three max_four min_four
set_option linter.unusedVariables false
set_option linter.unusedSimpArgs false
end Go.Proofs.YtckmmpknaengjaaDoor.Px
end
section
namespace Go.Proofs.YtckmmpknaengjaaDoor.Px
end Go.Proofs.YtckmmpknaengjaaDoor.Px
namespace Go.Proofs.YtckmmpknaengjaaDoor.Giv
end Go.Proofs.YtckmmpknaengjaaDoor.Giv
namespace Go.Proofs.YtckmmpknaengjaaDoor.Px
open Go.Proofs.YtckmmpknaengjaaDoor.Giv
open Go.RowKit Go.Proofs.YtckmmpknaengjaaDoorW.PrintWords Go.Proofs.YtckmmpknaengjaaDoorW.PrintLast Go.Proofs.YtckmmpknaengjaaDoorW.PrintMore
attribute [local go_sem] max2_int min2_int max_two min_two max_three min_three max_four min_four
set_option linter.unusedVariables false
set_option linter.unusedSimpArgs false
attribute [local go_sem high] eqA23
end Go.Proofs.YtckmmpknaengjaaDoor.Px
end
section
namespace Go.Proofs.YtckmmpknaengjaaDoor.Px
end Go.Proofs.YtckmmpknaengjaaDoor.Px
namespace Go.Proofs.YtckmmpknaengjaaDoor.Giv
end Go.Proofs.YtckmmpknaengjaaDoor.Giv
namespace Go.Proofs.YtckmmpknaengjaaDoor.Px
open Go.Proofs.YtckmmpknaengjaaDoor.Giv
open Go.RowKit Go.Proofs.YtckmmpknaengjaaDoorW.PrintWords Go.Proofs.YtckmmpknaengjaaDoorW.PrintLast Go.Proofs.YtckmmpknaengjaaDoorW.PrintMore
attribute [local go_sem] max2_int min2_int max_two min_two max_three min_three max_four min_four
set_option linter.unusedVariables false
set_option linter.unusedSimpArgs false
end Go.Proofs.YtckmmpknaengjaaDoor.Px
end
section
namespace Go.Proofs.YtckmmpknaengjaaDoor.Q
open Go.RowKit Go.Proofs.YtckmmpknaengjaaDoor.Px Go.Proofs.YtckmmpknaengjaaDoor.Giv Go.Proofs.YtckmmpknaengjaaDoorW.PrintWords Go.Proofs.YtckmmpknaengjaaDoorW.PrintLast Go.Proofs.YtckmmpknaengjaaDoorW.PrintMore
set_option linter.unusedVariables false
set_option linter.unusedSimpArgs false
theorem wrap_id (x : Int) (h0 : -9223372036854775808 ≤ x) (h1 : x ≤ 9223372036854775807) : wrap64 x = x := by unfold wrap64; omega
theorem in_f (a lo hi : Int) : spec_l1In.f a lo hi = some (decide (lo ≤ a ∧ a ≤ hi)) := by
  unfold spec_l1In.f
  by_cases h : a ≥ lo
  · rw [if_pos h]
    by_cases h2 : a ≤ hi <;> simp [h2, show lo ≤ a from h]
  · rw [if_neg h]
    have h' : ¬ lo ≤ a := h
    simp [h']
theorem bt_data (s : ByteArray) (i : Nat) (h : i < s.size) : ∃ b, s.data.toList[i]? = some b ∧ bt s (i : Int) = (b.toNat : Int) := by
  refine ⟨s[i], ?_, ?_⟩
  · have : s.data.toList[i]? = s.data[i]? := by simp
    rw [this, Array.getElem?_eq_getElem (by simpa using h)]
    rfl
  · unfold bt
    rw [dif_pos (by simpa using h)]
    rfl
def okc (b : Int) : Bool := decide (b = 108) || decide (b = 114) || decide (b = 117) || decide (b = 100)
def dxc (b : Int) : Int := if b = 108 then -1 else if b = 114 then 1 else 0
def dyc (b : Int) : Int := if b = 108 then 0 else if b = 114 then 0 else if b = 117 then 1 else if b = 100 then -1 else 0
theorem dx_range (b : Int) : -1 ≤ dxc b ∧ dxc b ≤ 1 := by unfold dxc; split <;> (try split) <;> omega
theorem dy_range (b : Int) : -1 ≤ dyc b ∧ dyc b ≤ 1 := by unfold dyc; split <;> (try split) <;> (try split) <;> (try split) <;> omega
theorem step_f (b : Int) : spec_l10Step.f b = some (dxc b, dyc b, okc b) := by
  unfold spec_l10Step.f dxc dyc okc
  by_cases h1 : b = 108
  · subst h1; rfl
  · by_cases h2 : b = 114
    · subst h2; rfl
    · by_cases h3 : b = 117
      · subst h3; rfl
      · by_cases h4 : b = 100
        · subst h4; rfl
        · simp [h1, h2, h3, h4]
theorem moved_f (x y b : Int) (hx : -100000 ≤ x ∧ x ≤ 100000) (hy : -100000 ≤ y ∧ y ≤ 100000) : impl_point_moved.f x y b = some (x + dxc b, y + dyc b) := by
  unfold impl_point_moved.f dxc dyc
  by_cases h1 : b = 108
  · subst h1; simp [wrap_id (x - 1) (by omega) (by omega)]; omega
  · by_cases h2 : b = 114
    · subst h2; simp [wrap_id (x + 1) (by omega) (by omega)]
    · by_cases h3 : b = 117
      · subst h3; simp [wrap_id (y + 1) (by omega) (by omega)]
      · by_cases h4 : b = 100
        · subst h4; simp [wrap_id (y - 1) (by omega) (by omega)]; omega
        · simp [h1, h2, h3, h4]
def inb (x : Int) : Bool := decide (-12 ≤ x ∧ x ≤ 12)
def goodFrom (s : ByteArray) : Nat → Nat → Int → Int → Bool
  | 0, _, _, _ => true
  | d + 1, i, x, y => okc (bt s (i : Int)) && (inb (x + dxc (bt s (i : Int))) && (inb (y + dyc (bt s (i : Int))) && goodFrom s d (i + 1) (x + dxc (bt s (i : Int))) (y + dyc (bt s (i : Int)))))
def ptsFrom (s : ByteArray) : Nat → Nat → Int → Int → List (Int × Int)
  | 0, _, _, _ => []
  | d + 1, i, x, y => (x + dxc (bt s (i : Int)), y + dyc (bt s (i : Int))) :: ptsFrom s d (i + 1) (x + dxc (bt s (i : Int))) (y + dyc (bt s (i : Int)))
theorem ptsFrom_length (s : ByteArray) : ∀ (d i : Nat) (x y : Int), (ptsFrom s d i x y).length = d
  | 0, _, _, _ => rfl
  | d + 1, i, x, y => by simp only [ptsFrom, List.length_cons]; rw [ptsFrom_length]
def mkA (p : Int × Int) : S23 := ⟨p.1, p.2⟩
def mkP (p : Int × Int) : S54 := ⟨p.1, p.2⟩
theorem points_l0 (s : ByteArray) (hs : s.size ≤ 400) : ∀ (d i k : Nat) (out : List S23) (x y : Int), s.size - i = d → i ≤ s.size → d < k → out.length ≤ i + 1 → (-(i : Int) ≤ x ∧ x ≤ (i : Int)) → (-(i : Int) ≤ y ∧ y ≤ (i : Int)) →
    ∃ o, spec_l10Points.l0 k s out x y (i : Int) = some (o, goodFrom s d i x y) ∧ (goodFrom s d i x y = true → o = out ++ (ptsFrom s d i x y).map mkA) := by
  intro d
  induction d with
  | zero =>
    intro i k out x y hd hi hk ho hx hy
    obtain ⟨k, rfl⟩ : ∃ m, k = m + 1 := ⟨k - 1, by omega⟩
    refine ⟨out, ?_, fun _ => by simp [ptsFrom]⟩
    rw [spec_l10Points.l0, if_neg (by omega)]
    rfl
  | succ d ih =>
    intro i k out x y hd hi hk ho hx hy
    obtain ⟨k, rfl⟩ : ∃ m, k = m + 1 := ⟨k - 1, by omega⟩
    have e : wrap64 ((i : Int) + 1) = ((i + 1 : Nat) : Int) := by rw [wrap_id _ (by omega) (by omega)]; omega
    have hdx := dx_range (bt s (i : Int))
    have hdy := dy_range (bt s (i : Int))
    rw [spec_l10Points.l0, if_pos (by omega), if_pos (by omega), step_f, Option.bind_some]
    simp only []
    rw [wrap_id (x + dxc (bt s (i : Int))) (by omega) (by omega), wrap_id (y + dyc (bt s (i : Int))) (by omega) (by omega), in_f, in_f, e]
    have eg : goodFrom s (d + 1) i x y = (okc (bt s (i : Int)) && (inb (x + dxc (bt s (i : Int))) && (inb (y + dyc (bt s (i : Int))) && goodFrom s d (i + 1) (x + dxc (bt s (i : Int))) (y + dyc (bt s (i : Int)))))) := rfl
    cases h1 : okc (bt s (i : Int)) with
    | false =>
      refine ⟨out, ?_, fun h => by rw [eg, h1] at h; simp at h⟩
      rw [if_neg (by simp), eg, h1]; rfl
    | true =>
      rw [if_pos rfl, Option.bind_some]
      have ex : decide (-12 ≤ x + dxc (bt s (i : Int)) ∧ x + dxc (bt s (i : Int)) ≤ 12) = inb (x + dxc (bt s (i : Int))) := rfl
      have ey : decide (-12 ≤ y + dyc (bt s (i : Int)) ∧ y + dyc (bt s (i : Int)) ≤ 12) = inb (y + dyc (bt s (i : Int))) := rfl
      rw [ex, ey]
      cases h2 : inb (x + dxc (bt s (i : Int))) with
      | false =>
        refine ⟨out, ?_, fun h => by rw [eg, h1, h2] at h; simp at h⟩
        rw [if_neg (by simp), eg, h1, h2]; rfl
      | true =>
        rw [if_pos rfl, Option.bind_some]
        cases h3 : inb (y + dyc (bt s (i : Int))) with
        | false =>
          refine ⟨out, ?_, fun h => by rw [eg, h1, h2, h3] at h; simp at h⟩
          rw [if_neg (by simp), eg, h1, h2, h3]; rfl
        | true =>
          rw [if_pos rfl, if_pos (by omega)]
          obtain ⟨o, h4, h5⟩ := ih (i + 1) k (out ++ [(⟨x + dxc (bt s (i : Int)), y + dyc (bt s (i : Int))⟩ : S23)]) (x + dxc (bt s (i : Int))) (y + dyc (bt s (i : Int))) (by omega) (by omega) (by omega) (by rw [List.length_append, List.length_singleton]; omega) (by omega) (by omega)
          have eg2 : goodFrom s (d + 1) i x y = goodFrom s d (i + 1) (x + dxc (bt s (i : Int))) (y + dyc (bt s (i : Int))) := by rw [eg, h1, h2, h3]; rfl
          refine ⟨o, by rw [h4, eg2], fun h => ?_⟩
          rw [h5 (by rw [← eg2]; exact h)]
          simp [ptsFrom, mkA]
theorem impl_points_l0 (s : ByteArray) (hs : s.size ≤ 400) : ∀ (d i k : Nat) (out : List S54) (x y : Int), s.size - i = d → i ≤ s.size → d < k → (-(i : Int) ≤ x ∧ x ≤ (i : Int)) → (-(i : Int) ≤ y ∧ y ≤ (i : Int)) → out.length = i →
    impl_pointsOf.l0 k s (out ++ [(⟨x, y⟩ : S54)]) (s.size : Int) (i : Int) = some (out ++ [(⟨x, y⟩ : S54)] ++ (ptsFrom s d i x y).map mkP) := by
  intro d
  induction d with
  | zero =>
    intro i k out x y hd hi hk hx hy ho
    obtain ⟨k, rfl⟩ : ∃ m, k = m + 1 := ⟨k - 1, by omega⟩
    rw [impl_pointsOf.l0, if_neg (by omega)]
    simp [ptsFrom]
  | succ d ih =>
    intro i k out x y hd hi hk hx hy ho
    obtain ⟨k, rfl⟩ : ∃ m, k = m + 1 := ⟨k - 1, by omega⟩
    have e : wrap64 ((i : Int) + 1) = ((i + 1 : Nat) : Int) := by rw [wrap_id _ (by omega) (by omega)]; omega
    have hdx := dx_range (bt s (i : Int))
    have hdy := dy_range (bt s (i : Int))
    have hr : rd_T54 (out ++ [(⟨x, y⟩ : S54)]) (i : Int) = ⟨x, y⟩ := by
      unfold rd_T54
      rw [Int.toNat_natCast, List.getD_eq_getElem?_getD, ← ho]
      simp
    rw [impl_pointsOf.l0, if_pos (by omega), if_pos (by omega), if_pos (by simp; omega), if_pos (by omega), hr, moved_f x y _ (by omega) (by omega), Option.bind_some, if_pos (by simp; omega), e]
    rw [ih (i + 1) k (out ++ [(⟨x, y⟩ : S54)]) (x + dxc (bt s (i : Int))) (y + dyc (bt s (i : Int))) (by omega) (by omega) (by omega) (by omega) (by omega) (by simp; omega)]
    simp [ptsFrom, mkP]
def pts (s : ByteArray) : List (Int × Int) := (0, 0) :: ptsFrom s s.size 0 0 0
theorem pts_length (s : ByteArray) : (pts s).length = s.size + 1 := by unfold pts; rw [List.length_cons, ptsFrom_length]
def pathB (s : ByteArray) : Bool := decide (s.size ≤ 400) && goodFrom s s.size 0 0 0
theorem l10Points_f (s : ByteArray) (k : Nat) (hk : s.size < k) : ∃ o, spec_l10Points.f k s = some (o, pathB s) ∧ (pathB s = true → o = (pts s).map mkA) := by
  unfold spec_l10Points.f pathB
  rw [Option.bind_some]
  by_cases h : s.size ≤ 400
  · rw [if_neg (by omega), decide_eq_true h]
    obtain ⟨o, h1, h2⟩ := points_l0 s h s.size 0 k [(⟨0, 0⟩ : S23)] 0 0 (by omega) (by omega) hk (by simp) (by omega) (by omega)
    refine ⟨o, ?_, fun hg => ?_⟩
    · rw [Bool.true_and]; exact h1
    · rw [Bool.true_and] at hg
      rw [h2 hg]
      simp [pts, mkA]
  · rw [if_pos (by omega), decide_eq_false h]
    exact ⟨_, rfl, fun h => by simp at h⟩
theorem pointsOf_f (s : ByteArray) (hs : s.size ≤ 400) (k : Nat) (hk : s.size < k) : impl_pointsOf.f k s = some ((pts s).map mkP) := by
  unfold impl_pointsOf.f
  have := impl_points_l0 s hs s.size 0 k [] 0 0 (by omega) (by omega) hk (by omega) (by omega) rfl
  rw [List.nil_append] at this
  refine Eq.trans this ?_
  simp [pts, mkP]
theorem within_f (x y : Int) (hx : -100000 ≤ x ∧ x ≤ 100000) (hy : -100000 ≤ y ∧ y ≤ 100000) : impl_readPath_1.f x y = some (!(inb x && inb y)) := by
  unfold impl_readPath_1.f impl_point_isWithin.f
  rw [wrap_id (-x) (by omega) (by omega), wrap_id (-y) (by omega) (by omega)]
  have ex : (mx x (-x) ≤ 12) ↔ (-12 ≤ x ∧ x ≤ 12) := by unfold mx; split <;> omega
  have ey : (mx y (-y) ≤ 12) ↔ (-12 ≤ y ∧ y ≤ 12) := by unfold mx; split <;> omega
  have iy : inb y = decide (mx y (-y) ≤ 12) := by unfold inb; rw [decide_eq_decide]; exact ey.symm
  by_cases h : mx x (-x) ≤ 12
  · have ix : inb x = true := by unfold inb; exact decide_eq_true (ex.mp h)
    rw [if_pos h, Option.bind_some, ix, iy, Bool.true_and]
  · have ix : inb x = false := by unfold inb; exact decide_eq_false (fun g => h (ex.mpr g))
    rw [if_neg h, Option.bind_some, ix]; rfl
theorem index_l0 (l : List (Int × Int)) (hl : l.length ≤ 1000) (hb : ∀ p ∈ l, (-100000 ≤ p.1 ∧ p.1 ≤ 100000) ∧ (-100000 ≤ p.2 ∧ p.2 ≤ 100000)) : ∀ (d i k : Nat), l.length - i = d → i ≤ l.length → d < k →
    ∃ r, slices_IndexFunc_impl_point_impl_point_at_impl_readPath_1.l0 k (l.map mkP) (l.length : Int) (i : Int) = some r ∧ decide (r ≥ 0) = !((l.drop i).all fun p => inb p.1 && inb p.2) := by
  intro d
  induction d with
  | zero =>
    intro i k hd hi hk
    obtain ⟨k, rfl⟩ : ∃ m, k = m + 1 := ⟨k - 1, by omega⟩
    refine ⟨-1, ?_, by rw [List.drop_of_length_le (by omega)]; rfl⟩
    rw [slices_IndexFunc_impl_point_impl_point_at_impl_readPath_1.l0, if_neg (by omega)]
  | succ d ih =>
    intro i k hd hi hk
    obtain ⟨k, rfl⟩ : ∃ m, k = m + 1 := ⟨k - 1, by omega⟩
    have e : wrap64 ((i : Int) + 1) = ((i + 1 : Nat) : Int) := by rw [wrap_id _ (by omega) (by omega)]; omega
    have hr : rd_T54 (l.map mkP) (i : Int) = mkP (l[i]'(by omega)) := by
      unfold rd_T54
      rw [Int.toNat_natCast, List.getD_eq_getElem?_getD, List.getElem?_map, List.getElem?_eq_getElem (by omega)]
      rfl
    have hm := hb (l[i]'(by omega)) (List.getElem_mem _)
    rw [slices_IndexFunc_impl_point_impl_point_at_impl_readPath_1.l0, if_pos (by omega), if_pos (by omega), if_pos (by rw [List.length_map]; omega), hr, e]
    rw [show (mkP (l[i]'(by omega))).f0 = (l[i]'(by omega)).1 from rfl, show (mkP (l[i]'(by omega))).f1 = (l[i]'(by omega)).2 from rfl, within_f _ _ hm.1 hm.2, Option.bind_some, List.drop_eq_getElem_cons (by omega : i < l.length), List.all_cons]
    show ∃ r, (if (!(inb (l[i]'(by omega)).1 && inb (l[i]'(by omega)).2)) = true then _ else _) = some r ∧ _
    cases hq : (inb (l[i]'(by omega)).1 && inb (l[i]'(by omega)).2) with
    | false => exact ⟨(i : Int), by rw [if_pos (by simp)], by simp⟩
    | true =>
      obtain ⟨r, h1, h2⟩ := ih (i + 1) k (by omega) (by omega) (by omega)
      exact ⟨r, by rw [if_neg (by simp)]; exact h1, by rw [h2, Bool.true_and]⟩
theorem ptsFrom_bound (s : ByteArray) : ∀ (d i : Nat) (x y : Int), (-(i : Int) ≤ x ∧ x ≤ (i : Int)) → (-(i : Int) ≤ y ∧ y ≤ (i : Int)) → ∀ p ∈ ptsFrom s d i x y, (-((i + d : Nat) : Int) ≤ p.1 ∧ p.1 ≤ ((i + d : Nat) : Int)) ∧ (-((i + d : Nat) : Int) ≤ p.2 ∧ p.2 ≤ ((i + d : Nat) : Int))
  | 0, i, x, y, _, _, p, hp => by simp [ptsFrom] at hp
  | d + 1, i, x, y, hx, hy, p, hp => by
    have hdx := dx_range (bt s (i : Int))
    have hdy := dy_range (bt s (i : Int))
    simp only [ptsFrom, List.mem_cons] at hp
    rcases hp with rfl | hp
    · simp only; omega
    · have := ptsFrom_bound s d (i + 1) (x + dxc (bt s (i : Int))) (y + dyc (bt s (i : Int))) (by omega) (by omega) p hp
      omega
theorem pts_bound (s : ByteArray) (hs : s.size ≤ 400) : ∀ p ∈ pts s, (-100000 ≤ p.1 ∧ p.1 ≤ 100000) ∧ (-100000 ≤ p.2 ∧ p.2 ≤ 100000) := by
  intro p hp
  unfold pts at hp
  rw [List.mem_cons] at hp
  rcases hp with rfl | hp
  · simp
  · have := ptsFrom_bound s s.size 0 0 0 (by omega) (by omega) p hp
    omega
def lettersFrom (s : ByteArray) : Nat → Nat → Bool
  | 0, _ => true
  | d + 1, i => okc (bt s (i : Int)) && lettersFrom s d (i + 1)
theorem good_parts (s : ByteArray) : ∀ (d i : Nat) (x y : Int), goodFrom s d i x y = (lettersFrom s d i && (ptsFrom s d i x y).all fun p => inb p.1 && inb p.2)
  | 0, _, _, _ => rfl
  | d + 1, i, x, y => by
    simp only [goodFrom, lettersFrom, ptsFrom, List.all_cons]
    rw [good_parts s d (i + 1)]
    cases okc (bt s (i : Int)) <;> cases inb (x + dxc (bt s (i : Int))) <;> cases inb (y + dyc (bt s (i : Int))) <;> cases lettersFrom s d (i + 1) <;> simp
def stepB (b : UInt8) : Bool := ([108, 114, 117, 100] : List UInt8).contains b
theorem okc_byte (b : UInt8) : okc (b.toNat : Int) = stepB b := by
  unfold okc stepB
  have key : ∀ n : Fin 256, (decide ((n.val : Int) = 108) || decide ((n.val : Int) = 114) || decide ((n.val : Int) = 117) || decide ((n.val : Int) = 100)) = ([108, 114, 117, 100] : List UInt8).contains (UInt8.ofNat n.val) := by decide +kernel
  have h := key ⟨b.toNat, b.toNat_lt⟩
  simpa using h
theorem letters_list (s : ByteArray) : ∀ (d i : Nat), i + d = s.size → lettersFrom s d i = (s.data.toList.drop i).all stepB := by
  have hsz : s.data.toList.length = s.size := by simp
  intro d
  induction d with
  | zero =>
    intro i hi
    rw [List.drop_of_length_le (by omega)]
    rfl
  | succ d ih =>
    intro i hi
    obtain ⟨b, hb, hv⟩ := bt_data s i (by omega)
    have hdr : s.data.toList.drop i = b :: s.data.toList.drop (i + 1) := by
      rw [List.drop_eq_getElem_cons (by omega)]
      congr 1
      rw [List.getElem?_eq_getElem (by omega)] at hb
      exact Option.some.inj hb
    simp only [lettersFrom]
    rw [hdr, List.all_cons, hv, ih (i + 1) (by omega), okc_byte]
theorem drop_all {α : Type} (p : α → Bool) : ∀ (l : List α), (∀ x ∈ l.dropWhile p, p x = true) → ∀ x ∈ l, p x = true
  | [], _ => by simp
  | a :: l, h => by
    intro x hx
    rw [List.dropWhile_cons] at h
    by_cases ha : p a = true
    · rw [if_pos ha] at h
      rw [List.mem_cons] at hx
      rcases hx with rfl | hx
      · exact ha
      · exact drop_all p l h x hx
    · rw [if_neg ha] at h
      exact h x hx
theorem dropWhile_nil {α : Type} (p : α → Bool) : ∀ (l : List α), l.dropWhile p = [] ↔ ∀ x ∈ l, p x = true
  | [] => by simp
  | a :: l => by
    rw [List.dropWhile_cons]
    by_cases ha : p a = true
    · rw [if_pos ha, dropWhile_nil p l]
      simp [ha]
    · rw [if_neg ha]
      simp [ha]
theorem trim_nil (l cs : List UInt8) : (Lib.trimS l cs = []) ↔ ∀ b ∈ l, cs.contains b = true := by
  unfold Lib.trimS Lib.trimLeftS Lib.trimRightS
  constructor
  · intro h
    rw [dropWhile_nil] at h
    have h1 : ∀ x ∈ l.reverse.dropWhile (cs.contains ·), cs.contains x = true := fun x hx => h x (List.mem_reverse.mpr hx)
    have h2 := drop_all (cs.contains ·) l.reverse h1
    intro b hb
    exact h2 b (List.mem_reverse.mpr hb)
  · intro h
    have h1 : l.reverse.dropWhile (cs.contains ·) = [] := by
      rw [dropWhile_nil]
      intro x hx
      exact h x (List.mem_reverse.mp hx)
    rw [h1]
    rfl
theorem trim_f (s : ByteArray) (hs : s.size ≤ 400) : ∃ t, strings_Trim.f s ⟨#[108, 114, 117, 100]⟩ = some t ∧ (t.toList != ([] : List UInt8)) = !lettersFrom s s.size 0 := by
  unfold strings_Trim.f
  rw [if_pos ⟨by omega, rfl⟩]
  refine ⟨_, rfl, ?_⟩
  rw [Lib.toList_data, letters_list s s.size 0 (by omega), List.drop_zero]
  show ((Lib.trimS s.data.toList [108, 114, 117, 100]) != ([] : List UInt8)) = _
  have h := trim_nil s.data.toList [108, 114, 117, 100]
  cases ha : s.data.toList.all stepB with
  | true =>
    have : Lib.trimS s.data.toList [108, 114, 117, 100] = [] := h.mpr (fun b hb => List.all_eq_true.mp ha b hb)
    rw [this]; rfl
  | false =>
    have : Lib.trimS s.data.toList [108, 114, 117, 100] ≠ [] := by
      intro hn
      have h3 : s.data.toList.all stepB = true := List.all_eq_true.mpr (fun b hb => h.mp hn b hb)
      rw [h3] at ha
      cases ha
    simpa using this
theorem readPath_f (s : ByteArray) (k : Nat) (hk : s.size + 3 < k) : ∃ o, impl_readPath.f k s = some (o, pathB s) ∧ (pathB s = true → o = (pts s).map mkP) := by
  unfold impl_readPath.f pathB
  obtain ⟨k, rfl⟩ : ∃ m, k = m + 1 := ⟨k - 1, by omega⟩
  by_cases h : s.size ≤ 400
  · rw [if_neg (by omega), decide_eq_true h, Bool.true_and, good_parts]
    obtain ⟨t, ht, hv⟩ := trim_f s h
    rw [ht, Option.bind_some, hv, impl_readPath.j0]
    cases hl : lettersFrom s s.size 0 with
    | false =>
      rw [if_pos (by simp)]
      exact ⟨[], rfl, fun h => by simp at h⟩
    | true =>
      rw [if_neg (by simp), pointsOf_f s h k (by omega), Option.bind_some]
      obtain ⟨r, h1, h2⟩ := index_l0 (pts s) (by rw [pts_length]; omega) (pts_bound s h) (pts s).length 0 k (by omega) (by omega) (by rw [pts_length]; omega)
      unfold slices_ContainsFunc_impl_point_impl_point_at_impl_readPath_1.f slices_IndexFunc_impl_point_impl_point_at_impl_readPath_1.f
      have e0 : ((0 : Nat) : Int) = 0 := rfl
      rw [e0] at h1
      rw [List.length_map, h1, Option.bind_some, Option.bind_some, h2, Bool.not_not, List.drop_zero]
      refine ⟨_, ?_, fun _ => rfl⟩
      congr 2
  · rw [if_pos (by omega), decide_eq_false h, impl_readPath.j0, if_pos rfl]
    exact ⟨[], rfl, fun h => by simp at h⟩
theorem spec_IsPath_f (s : ByteArray) (k : Nat) (hk : s.size < k) : spec_IsPath.f k s = some (pathB s) := by
  unfold spec_IsPath.f
  obtain ⟨o, h1, _⟩ := l10Points_f s k hk
  rw [h1]; rfl
theorem impl_IsPath_f (s : ByteArray) (k : Nat) (hk : s.size + 3 < k) : impl_IsPath.f k s = some (pathB s) := by
  unfold impl_IsPath.f
  obtain ⟨o, h1, _⟩ := readPath_f s k hk
  rw [h1]; rfl
end Go.Proofs.YtckmmpknaengjaaDoor.Q
end
section
namespace Go.Proofs.YtckmmpknaengjaaDoor.Q
open Go.RowKit Go.Proofs.YtckmmpknaengjaaDoor.Px Go.Proofs.YtckmmpknaengjaaDoor.Giv Go.Proofs.YtckmmpknaengjaaDoorW.PrintWords Go.Proofs.YtckmmpknaengjaaDoorW.PrintLast Go.Proofs.YtckmmpknaengjaaDoorW.PrintMore
set_option linter.unusedVariables false
set_option linter.unusedSimpArgs false
def ptAt (s : ByteArray) (i : Nat) : Int × Int := (pts s).getD i (0, 0)
theorem path_size {s : ByteArray} (h : pathB s = true) : s.size ≤ 400 := by
  unfold pathB at h
  simp only [Bool.and_eq_true, decide_eq_true_eq] at h
  exact h.1
def closedB (s : ByteArray) : Bool := pathB s && ((ptAt s s.size).1 == 0 && ((ptAt s s.size).2 == 0))
end Go.Proofs.YtckmmpknaengjaaDoor.Q
end
section
namespace Go.Proofs.YtckmmpknaengjaaDoor.Q
open Go.RowKit Go.Proofs.YtckmmpknaengjaaDoor.Px Go.Proofs.YtckmmpknaengjaaDoor.Giv Go.Proofs.YtckmmpknaengjaaDoorW.PrintWords Go.Proofs.YtckmmpknaengjaaDoorW.PrintLast Go.Proofs.YtckmmpknaengjaaDoorW.PrintMore
set_option linter.unusedVariables false
set_option linter.unusedSimpArgs false
theorem fl_inj {a b : ByteArray} (h : a.data.toList = b.data.toList) : a = b := ByteArray.ext (Array.ext' h)
theorem fl_append (a b : List Int) : strOfNums (a ++ b) = strOfNums a ++ strOfNums b := by
  apply fl_inj
  rw [ByteArray.data_append, Array.toList_append]
  unfold strOfNums
  simp
theorem fl_size (l : List Int) : (strOfNums l).size = l.length := by
  unfold strOfNums
  show (List.toArray _).size = _
  simp
theorem fl_one (s : ByteArray) (i : Nat) (h : i < s.size) : s.extract i (i + 1) = strOfNums [bt s (i : Int)] := by
  obtain ⟨b, hb, hv⟩ := bt_data s i h
  have hl : s.data.toList.length = s.size := by simp
  rw [hv]
  apply fl_inj
  rw [ByteArray.data_extract, Array.toList_extract, List.extract_eq_take_drop, List.drop_eq_getElem_cons (by omega), Nat.add_sub_cancel_left]
  rw [List.getElem?_eq_getElem (by omega)] at hb
  rw [Option.some.inj hb]
  unfold strOfNums
  simp
theorem fl_w1 (i : Nat) (h : i ≤ 100000) : wrap64 ((i : Int) + 1) = ((i + 1 : Nat) : Int) := by have h_ := wrap_id ((i : Int) + 1) (by omega) (by omega); omega
theorem back_u : spec_l10Back.f 117 = some (strOfNums [100]) := by decide +kernel
theorem back_d : spec_l10Back.f 100 = some (strOfNums [117]) := by decide +kernel
theorem flip_drop (s : ByteArray) (i : Nat) (h : i < s.size) : strOfNums (((bytesOf s).drop i).map flipB) = strOfNums [flipB (bt s (i : Int))] ++ strOfNums (((bytesOf s).drop (i + 1)).map flipB) := by
  have hl : (bytesOf s).length = s.size := bytesOf_length s
  have hb : (bytesOf s)[i]'(by omega) = bt s (i : Int) := by
    have h_ := rd_bytesOf s (i : Int)
    unfold rd at h_
    rw [Int.toNat_natCast, List.getD_eq_getElem?_getD, List.getElem?_eq_getElem (by omega)] at h_
    exact h_
  rw [List.drop_eq_getElem_cons (by omega), List.map_cons, hb, ← fl_append]
  rfl
theorem spec_flip_l0 (s : ByteArray) (hs : s.size ≤ 400) : ∀ (d i k : Nat) (out : ByteArray), s.size - i = d → i ≤ s.size → d < k → out.size ≤ i → spec_FlipPath.l0 k s out (i : Int) = some (out ++ strOfNums (((bytesOf s).drop i).map flipB), true) := by
  have hl : (bytesOf s).length = s.size := bytesOf_length s
  intro d
  induction d with
  | zero =>
    intro i k out hd hi hk ho
    obtain ⟨k, rfl⟩ : ∃ m, k = m + 1 := ⟨k - 1, by omega⟩
    rw [spec_FlipPath.l0, if_neg (by omega), List.drop_of_length_le (by omega)]
    congr 2
    apply fl_inj
    rw [ByteArray.data_append, Array.toList_append]
    unfold strOfNums
    simp
  | succ d ih =>
    intro i k out hd hi hk ho
    obtain ⟨k, rfl⟩ : ∃ m, k = m + 1 := ⟨k - 1, by omega⟩
    have hsz : (out ++ strOfNums [flipB (bt s (i : Int))]).size ≤ i + 1 := by rw [ByteArray.size_append, fl_size, List.length_singleton]; omega
    have ih := ih (i + 1) k (out ++ strOfNums [flipB (bt s (i : Int))]) (by omega) (by omega) (by omega) hsz
    rw [ByteArray.append_assoc, ← flip_drop s i (by omega)] at ih
    have t1 : (i : Int) < (s.size : Int) := by omega
    have t2 : (0 : Int) ≤ (i : Int) := by omega
    have t3 : (i : Int) ≤ ((i + 1 : Nat) : Int) := by omega
    have t4 : ((i + 1 : Nat) : Int) ≤ (s.size : Int) := by omega
    have t5 : out.size + (i + 1 - i) ≤ 9223372036854775807 := by omega
    have z1 : ∀ x : Int, out.size + (strOfNums [x]).size ≤ 9223372036854775807 := by intro x; rw [fl_size, List.length_singleton]; omega
    rw [spec_FlipPath.l0, if_pos t1, if_pos t2, fl_w1 i (by omega)]
    by_cases h1 : bt s (i : Int) = 117
    · have e : flipB (bt s (i : Int)) = 100 := by rw [h1]; rfl
      rw [e] at ih
      rw [if_pos h1, h1, back_u, Option.bind_some, if_pos (z1 100)]
      exact ih
    · by_cases h2 : bt s (i : Int) = 100
      · have e : flipB (bt s (i : Int)) = 117 := by rw [h2]; rfl
        rw [e] at ih
        rw [if_neg h1, if_pos h2, h2, back_d, Option.bind_some, if_pos (z1 117)]
        exact ih
      · have e : flipB (bt s (i : Int)) = bt s (i : Int) := by unfold flipB; rw [if_neg h1, if_neg h2]
        rw [e] at ih
        rw [if_neg h1, if_neg h2, if_pos t3, if_pos t4, Int.toNat_natCast, Int.toNat_natCast, if_pos t5, fl_one s i (by omega)]
        exact ih
theorem FlipPath_agree (s : ByteArray) (hl : s.size ≤ 1048576) : ∃ K r1 r2, ∀ k, K ≤ k → spec_FlipPath.f k s = some (r1, r2) ∧ impl_FlipPath.f k s = some (r1, r2) := by
  cases hp : pathB s with
  | false =>
    refine ⟨s.size + 10, ⟨#[]⟩, false, fun k hk => ?_⟩
    unfold spec_FlipPath.f impl_FlipPath.f
    rw [spec_IsPath_f s k (by omega), impl_IsPath_f s k (by omega), hp, Option.bind_some, Option.bind_some]
    exact ⟨rfl, rfl⟩
  | true =>
    have hs := path_size hp
    refine ⟨s.size + 10, strOfNums ((bytesOf s).map flipB), true, fun k hk => ?_⟩
    have h1 := spec_flip_l0 s hs s.size 0 k ⟨#[]⟩ (by omega) (by omega) (by omega) (Nat.le_refl _)
    have e0 : (⟨#[]⟩ : ByteArray) ++ strOfNums (((bytesOf s).drop 0).map flipB) = strOfNums ((bytesOf s).map flipB) := by
      rw [List.drop_zero]
      apply fl_inj
      rw [ByteArray.data_append, Array.toList_append]
      rfl
    rw [e0] at h1
    unfold spec_FlipPath.f impl_FlipPath.f
    rw [spec_IsPath_f s k (by omega), impl_IsPath_f s k (by omega), hp, Option.bind_some, Option.bind_some, if_pos rfl, if_pos rfl, if_pos (by omega)]
    exact ⟨h1, rfl⟩
end Go.Proofs.YtckmmpknaengjaaDoor.Q
end
section
namespace Go.Proofs.YtckmmpknaengjaaDoor.Pure
open Go.RowKit Go.Proofs.YtckmmpknaengjaaDoor.Px Go.Proofs.YtckmmpknaengjaaDoor.Giv Go.Proofs.YtckmmpknaengjaaDoorW.PrintWords Go.Proofs.YtckmmpknaengjaaDoorW.PrintLast Go.Proofs.YtckmmpknaengjaaDoor.Q
set_option linter.unusedVariables false
set_option linter.unusedSimpArgs false
theorem obind {A B : Type} (a : A) (f : A → Option B) : (some a).bind f = f a := Eq.trans (Option.bind_some a f) rfl
theorem FnExactFlipPath : laws_FnExactFlipPath.Pure := by
  intro a0 hy0
  simp only [maxLen] at *
  by_cases hbigs0 : (a0.size : Int) > 1048576
  · exact ⟨0, by simp only [laws_FnExactFlipPath.f, hbigs0, if_true, if_false]⟩
  obtain ⟨K, r1, r2, hA⟩ := FlipPath_agree a0 (by omega)
  obtain ⟨M, hM⟩ : ∃ M, M = K + 1 := ⟨_, rfl⟩
  have hS : ∀ j, spec_FlipPath.f (M + j) a0 = some (r1, r2) := fun j => (hA (M + j) (by omega)).1
  have hI : ∀ j, impl_FlipPath.f (M + j) a0 = some (r1, r2) := fun j => (hA (M + j) (by omega)).2
  clear hA hM
  refine ⟨M + 1, ?_⟩
  simp only [laws_FnExactFlipPath.f, hbigs0, hS, hI, obind, if_true, if_false, bne_self_eq_false, Bool.false_eq_true, eq_self]
end Go.Proofs.YtckmmpknaengjaaDoor.Pure
end
