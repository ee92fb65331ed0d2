import Derived.Test.YtckmmpknaengjaaDoorPx0
import Derived.Test.YtckmmpknaengjaaDoorGivS
import Derived.Lib.SlTrimSet
import Derived.Lib.AsciiSet
import Derived.Deep.WholeRow
namespace Go.Proofs.YtckmmpknaengjaaDoor.Giv
set_option linter.unusedVariables false
set_option linter.unusedSimpArgs false
open Go.RowKit Go.Proofs.YtckmmpknaengjaaDoorW.PrintWords Go.Proofs.YtckmmpknaengjaaDoorW.PrintLast Go.Proofs.YtckmmpknaengjaaDoorW.PrintMore
def sizeV : Value → Nat
  | .string t => t.size
  | _ => 0
theorem ext_drop (t : ByteArray) (i : Nat) : (t.extract i t.size).data.toList = t.data.toList.drop i := by
  rw [ByteArray.data_extract, Array.toList_extract]
  simp
  rw [List.take_of_length_le]
  simp
theorem ext_take (t : ByteArray) (i : Nat) : (t.extract 0 i).data.toList = t.data.toList.take i := by
  rw [ByteArray.data_extract, Array.toList_extract]
  simp
theorem data_get (t : ByteArray) (i : Nat) (h : i < t.size) : t.data.toList[i]'(by simpa using h) = t[i] := by
  simp; rfl
theorem data_cons (t : ByteArray) (h : 0 < t.size) : t.data.toList = (t[0]'h) :: t.data.toList.drop 1 := by
  have hl : 0 < t.data.toList.length := by simpa using h
  have h1 := List.drop_eq_getElem_cons hl
  rw [List.drop_zero, data_get t 0 h] at h1
  exact h1
theorem data_snoc (t : ByteArray) (h : 0 < t.size) : t.data.toList = t.data.toList.take (t.size - 1) ++ [t[t.size - 1]'(by omega)] := by
  have hl : t.data.toList.length = t.size := by simp
  have h1 := List.take_succ_eq_append_getElem (l := t.data.toList) (i := t.size - 1) (by omega)
  rw [data_get t (t.size - 1) (by omega), show t.size - 1 + 1 = t.size from by omega, List.take_of_length_le (by omega)] at h1
  exact h1
theorem left_true (t : ByteArray) (cs : List UInt8) (h : 0 < t.size) (hc : cs.contains (t[0]'h) = true) : Lib.trimLeftS (t.extract 1 t.size).data.toList cs = Lib.trimLeftS t.data.toList cs := by
  rw [ext_drop]
  conv => rhs; rw [data_cons t h]
  unfold Lib.trimLeftS
  rw [List.dropWhile_cons, if_pos hc]
theorem left_false (t : ByteArray) (cs : List UInt8) (h : 0 < t.size) (hc : cs.contains (t[0]'h) = false) : t.data.toList = Lib.trimLeftS t.data.toList cs := by
  have e := data_cons t h
  rw [e]
  unfold Lib.trimLeftS
  rw [List.dropWhile_cons, if_neg (by rw [hc]; simp)]
theorem left_nil (t : ByteArray) (cs : List UInt8) (h : t.size = 0) : t.data.toList = Lib.trimLeftS t.data.toList cs := by
  have : t.data.toList = [] := List.eq_nil_of_length_eq_zero (by simpa using h)
  rw [this]
  rfl
theorem right_true (t : ByteArray) (cs : List UInt8) (h : 0 < t.size) (hc : cs.contains (t[t.size - 1]'(by omega)) = true) : Lib.trimRightS (t.extract 0 (t.size - 1)).data.toList cs = Lib.trimRightS t.data.toList cs := by
  rw [ext_take]
  conv => rhs; rw [data_snoc t h]
  unfold Lib.trimRightS
  rw [List.reverse_append, List.reverse_singleton, List.singleton_append, List.dropWhile_cons, if_pos hc]
theorem right_false (t : ByteArray) (cs : List UInt8) (h : 0 < t.size) (hc : cs.contains (t[t.size - 1]'(by omega)) = false) : t.data.toList = Lib.trimRightS t.data.toList cs := by
  have e := data_snoc t h
  rw [e]
  unfold Lib.trimRightS
  rw [List.reverse_append, List.reverse_singleton, List.singleton_append, List.dropWhile_cons, if_neg (by rw [hc]; simp), List.reverse_cons, List.reverse_reverse]
theorem right_nil (t : ByteArray) (cs : List UInt8) (h : t.size = 0) : t.data.toList = Lib.trimRightS t.data.toList cs := by
  have : t.data.toList = [] := List.eq_nil_of_length_eq_zero (by simpa using h)
  rw [this]
  rfl
theorem trimLeft_calls (g : Nat) (cs : List UInt8) (w : World) (hc : ∀ x : UInt8, w.cell? ⟨g, x.toNat, none⟩ = some (.bool (cs.contains x))) (s : ByteArray) (hs : s.size ≤ 1048576) :
    Calls Tryd.prog 67 #[.string s, .pointer (some ⟨g, 0, none⟩)] w fun e w' => ∃ t : ByteArray, e = .returned (.string t) ∧ t.data.toList = Lib.trimLeftS s.data.toList cs ∧ Drawn0 w w' := by
  go_enter Tryd.func67, Tryd.ntmps67
  go_wp2
  go_loopw [0] (fun v w' => ∃ t : ByteArray, v = .string t ∧ t.size ≤ 1048576 ∧ Aside0 (Lib.trimLeftS t.data.toList cs = Lib.trimLeftS s.data.toList cs) ∧ Drawn0 w w') (fun v w' => sizeV v)
  case atStart => exact ⟨s, rfl, hs, ⟨rfl⟩, Drawn0.refl _⟩
  case round =>
    obtain ⟨t, rfl, h0, HA, ⟨m1, rfl⟩⟩ := hrel
    by_cases hlt : (t.size : Int) > 0
    · have hltb : decide (0 < (t.size : Int)) = true := decide_eq_true hlt
      have hpos : 0 < t.size := by omega
      have hltc : decide (0 < t.size) = true := decide_eq_true hpos
      cases hb : cs.contains (t[0]'hpos) with
      | false =>
        have HB := Aside0.mk hb
        clear hb
        go_wp2_with (first | (go_at_call 74; refine (Tryd.asciiSet_contains g (t[0]'hpos) false _ (by have h_ := hc (t[0]'hpos); rw [HB.out] at h_; exact h_)).mono ?_; rintro e w' ⟨rfl, rfl⟩))
        go_ret
        exact ⟨t, rfl, by rw [← HA.out]; exact left_false t cs hpos HB.out, ⟨_, rfl⟩⟩
      | true =>
        have HB := Aside0.mk hb
        clear hb
        have HS := Aside0.mk (left_true t cs hpos HB.out)
        go_wp2_with (first | (go_at_call 74; refine (Tryd.asciiSet_contains g (t[0]'hpos) true _ (by have h_ := hc (t[0]'hpos); rw [HB.out] at h_; exact h_)).mono ?_; rintro e w' ⟨rfl, rfl⟩))
        go_roundw
        case measure => simp only [sizeV, ByteArray.size_extract]; omega
        case rel => exact ⟨_, rfl, by rw [ByteArray.size_extract]; omega, ⟨HS.out.trans HA.out⟩, ⟨_, rfl⟩⟩
    · have hltb : decide (0 < (t.size : Int)) = false := decide_eq_false hlt
      have hltc : decide (0 < t.size) = false := decide_eq_false (by omega)
      go_wp2
      go_ret
      exact ⟨t, rfl, by rw [← HA.out]; exact left_nil t cs (by omega), ⟨_, rfl⟩⟩
theorem trimRight_calls (g : Nat) (cs : List UInt8) (w : World) (hc : ∀ x : UInt8, w.cell? ⟨g, x.toNat, none⟩ = some (.bool (cs.contains x))) (s : ByteArray) (hs : s.size ≤ 1048576) :
    Calls Tryd.prog 68 #[.string s, .pointer (some ⟨g, 0, none⟩)] w fun e w' => ∃ t : ByteArray, e = .returned (.string t) ∧ t.data.toList = Lib.trimRightS s.data.toList cs ∧ t.size ≤ 1048576 ∧ Drawn0 w w' := by
  go_enter Tryd.func68, Tryd.ntmps68
  go_wp2
  go_loopw [0] (fun v w' => ∃ t : ByteArray, v = .string t ∧ t.size ≤ 1048576 ∧ Aside0 (Lib.trimRightS t.data.toList cs = Lib.trimRightS s.data.toList cs) ∧ Drawn0 w w') (fun v w' => sizeV v)
  case atStart => exact ⟨s, rfl, hs, ⟨rfl⟩, Drawn0.refl _⟩
  case round =>
    obtain ⟨t, rfl, h0, HA, ⟨m1, rfl⟩⟩ := hrel
    by_cases hlt : (t.size : Int) > 0
    · have hltb : decide (0 < (t.size : Int)) = true := decide_eq_true hlt
      have hpos : 0 < t.size := by omega
      have hltc : decide (0 < t.size) = true := decide_eq_true hpos
      have hwr : wrap64 ((t.size : Int) - 1) = ((t.size - 1 : Nat) : Int) := by unfold wrap64; omega
      cases hb : cs.contains (t[t.size - 1]'(by omega)) with
      | false =>
        have HB := Aside0.mk hb
        clear hb
        go_wp2_with (first | (go_at_call 74; refine (Tryd.asciiSet_contains g (t[t.size - 1]'(by omega)) false _ (by have h_ := hc (t[t.size - 1]'(by omega)); rw [HB.out] at h_; exact h_)).mono ?_; rintro e w' ⟨rfl, rfl⟩))
        go_ret
        exact ⟨t, rfl, by rw [← HA.out]; exact right_false t cs hpos HB.out, h0, ⟨_, rfl⟩⟩
      | true =>
        have HB := Aside0.mk hb
        clear hb
        have HS := Aside0.mk (right_true t cs hpos HB.out)
        go_wp2_with (first | (go_at_call 74; refine (Tryd.asciiSet_contains g (t[t.size - 1]'(by omega)) true _ (by have h_ := hc (t[t.size - 1]'(by omega)); rw [HB.out] at h_; exact h_)).mono ?_; rintro e w' ⟨rfl, rfl⟩))
        go_roundw
        case measure => simp only [sizeV, ByteArray.size_extract]; omega
        case rel => exact ⟨_, rfl, by rw [ByteArray.size_extract]; omega, ⟨HS.out.trans HA.out⟩, ⟨_, rfl⟩⟩
    · have hltb : decide (0 < (t.size : Int)) = false := decide_eq_false hlt
      have hltc : decide (0 < t.size) = false := decide_eq_false (by omega)
      go_wp2
      go_ret
      exact ⟨t, rfl, by rw [← HA.out]; exact right_nil t cs (by omega), h0, ⟨_, rfl⟩⟩
def strings_Trim.f (a0 : ByteArray) (a1 : ByteArray) : Option ByteArray := if a0.size ≤ 1048576 ∧ a1.data.toList = [108, 114, 117, 100] then some ⟨(Lib.trimS a0.data.toList a1.data.toList).toArray⟩ else none
theorem info_set : (Tryd.prog.info? 76).map (fun i => (i.zero, i.size)) = some (some (.agg (Array.replicate 256 (.bool false))), 256) := by kernel_rfl
theorem steps_ascii : ∀ (j : Nat) (b : UInt8), ([108, 114, 117, 100] : List UInt8)[j]? = some b → b.toNat < 128 := by
  intro j b h
  have hm : b ∈ ([108, 114, 117, 100] : List UInt8) := List.mem_of_getElem? h
  simp at hm
  rcases hm with rfl | rfl | rfl | rfl <;> decide
/-- The set of the steps' letters. -/
def stepSet : Array Value := Lib.setCells [108, 114, 117, 100]
set_option maxHeartbeats 8000000 in
set_option maxRecDepth 1000000 in
theorem Trim_calls (s : ByteArray) (w : World) (hs : s.size ≤ 1048576) :
    Calls Tryd.prog 56 #[.string s, .string ⟨#[108, 114, 117, 100]⟩] w fun e w' => ∃ t : ByteArray, e = .returned (.string t) ∧ t.data.toList = Lib.trimS s.data.toList [108, 114, 117, 100] ∧ Below w.heap.size w w' := by
  by_cases h0 : s.toList = ([] : List UInt8)
  · have h0c : s.toList.isEmpty = true := by rw [h0]; rfl
    have hd : s.data.toList = [] := by rw [← Lib.toList_data]; exact h0
    go_enter Tryd.func56, Tryd.ntmps56
    go_wp2
    go_ret
    exact ⟨s, rfl, by rw [hd]; rfl, Below.refl _ _⟩
  · have h0c : s.toList.isEmpty = false := by
      cases h : s.toList with
      | nil => exact absurd h h0
      | cons _ _ => rfl
    obtain ⟨w1, hw1⟩ : ∃ w1, w1 = w.alloc (.cells stepSet 76) := ⟨_, rfl⟩
    obtain ⟨w2, hw2⟩ : ∃ w2, w2 = w1.alloc (.cells stepSet 76) := ⟨_, rfl⟩
    have hz : ∀ w, (zeroValue 76).run Tryd.prog w = .ok (.agg (Array.replicate 256 (.bool false))) w := (zero_of_info info_set).1
    have hM : Calls Tryd.prog 66 #[.string ⟨#[108, 114, 117, 100]⟩] w fun e w' => e = .returned (.tuple #[.agg stepSet, .bool true]) ∧ w' = w1 := by
      rw [hw1]
      exact Tryd.strings_makeASCIISet hz ⟨#[108, 114, 117, 100]⟩ w (by decide) steps_ascii
    have hsc : (storeCells ⟨w1.heap.size, 0, none⟩ stepSet.toList 0).run Tryd.prog (w1.alloc (.cells (Array.replicate 256 (.bool false)) 76)) = .ok () w2 := by
      rw [hw2]
      exact run_storeCells_new (P := Tryd.prog) w1 76 (Array.replicate 256 (.bool false)) stepSet (by unfold stepSet; rw [Lib.setCells_size]; exact (zero_of_info info_set).2) (by unfold stepSet; rw [Lib.setCells_size, Array.size_replicate]) (Lib.setCells_one _)
    have hcell : ∀ x : UInt8, w2.cell? ⟨w1.heap.size, x.toNat, none⟩ = some (.bool (([108, 114, 117, 100] : List UInt8).contains x)) := fun x => by
      rw [hw2, World.cell?_alloc_at _ _ _ _ rfl]
      exact Lib.setCells_at _ _
    have hb : Below w.heap.size w w2 := by
      rw [hw2, hw1]
      exact ((Below.refl _ _).alloc (Nat.le_refl _) _).alloc (by simp) _
    have HB := Aside0.mk hb
    have HC := Aside0.mk hcell
    clear hb hcell hw2 hw1
    go_enter Tryd.func56, Tryd.ntmps56
    go_wp2_with (first
      | (go_at_call 66; refine hM.mono ?_; rintro e w' ⟨rfl, rfl⟩)
      | (go_at_call 68; refine (trimRight_calls _ [108, 114, 117, 100] _ HC.out s hs).mono ?_; rintro e w' ⟨t1, rfl, hr1, hr2, ⟨n1, rfl⟩⟩; have HR1 := Aside0.mk hr1; have HR2 := Aside0.mk hr2; clear hr1 hr2)
      | (go_at_call 67; refine (trimLeft_calls _ [108, 114, 117, 100] _ (fun x => by simpa using HC.out x) t1 HR2.out).mono ?_; rintro e w' ⟨t2, rfl, hl1, ⟨n2, rfl⟩⟩; have HL1 := Aside0.mk hl1; clear hl1))
    go_ret
    exact ⟨t2, rfl, by rw [HL1.out, HR1.out]; rfl, by first | exact below_draws HB.out _ | exact (HB.out).trans ⟨rfl, rfl, rfl, Nat.le_refl _, fun _ _ => rfl⟩⟩
theorem strings_Trim.calls (a0 : ByteArray) (a1 : ByteArray) (r : ByteArray) (w : World) (h : strings_Trim.f a0 a1 = some r) :
    Calls Tryd.prog 56 #[.string a0, .string a1] w fun e w' => e = .returned (.string r) ∧ Below w.heap.size w w' := by
  unfold strings_Trim.f at h
  split at h
  · rename_i h1
    obtain rfl := Option.some.inj h
    obtain ⟨⟨l⟩⟩ := a1
    obtain ⟨hs, hl⟩ := h1
    simp only at hl
    subst hl
    refine (Trim_calls a0 w hs).mono ?_
    rintro e w' ⟨t, rfl, ht, hb⟩
    refine ⟨?_, hb⟩
    rw [← ht]
  · cases h
end Go.Proofs.YtckmmpknaengjaaDoor.Giv
