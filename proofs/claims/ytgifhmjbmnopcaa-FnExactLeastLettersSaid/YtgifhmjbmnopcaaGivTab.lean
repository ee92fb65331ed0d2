import Derived.Deep.WholeRow
import Derived.Test.YtgifhmjbmnopcaaPx1
import Derived.Test.YtgifhmjbmnopcaaPx2
namespace Go.Proofs.Ytgifhmjbmnopcaa.Giv
set_option linter.unusedVariables false
set_option linter.unusedSimpArgs false
open Go.RowKit Go.Proofs.YtgifhmjbmnopcaaW.PrintWords Go.Proofs.YtgifhmjbmnopcaaW.PrintLast Go.Proofs.YtgifhmjbmnopcaaW.PrintMore Go.Proofs.Ytgifhmjbmnopcaa.Px
/-- The cells of a table of 64 reports. -/
def tabA (T : Int → Bool) : Array Value := ((List.range 64).map fun i => Value.bool (T (i : Nat))).toArray
/-- A table that is filled up to a place. -/
def tabTo (T : Int → Bool) (i : Nat) : Int → Bool := fun s => if s < i then T s else false
theorem tabA_size (T : Int → Bool) : (tabA T).size = 64 := by simp [tabA]
theorem tabA_at (T : Int → Bool) (i : Nat) (h : i < 64) : (tabA T)[i]? = some (.bool (T (i : Nat))) := by
  simp [tabA, h]
theorem tabTo_set (T : Int → Bool) (i : Nat) (h : i < 64) : (tabA (tabTo T i)).setIfInBounds i (.bool (T (i : Nat))) = tabA (tabTo T (i + 1)) := by
  apply Array.ext_getElem?
  intro j
  rw [Array.getElem?_setIfInBounds, tabA_size]
  by_cases hj : j < 64
  · rw [tabA_at _ j hj, tabA_at _ j hj]
    by_cases e : i = j
    · subst e
      rw [if_pos rfl, if_pos (by omega)]
      unfold tabTo
      rw [if_pos (by omega)]
    · rw [if_neg e]
      unfold tabTo
      by_cases h2 : j < i
      · rw [if_pos (by omega), if_pos (by omega)]
      · rw [if_neg (by omega), if_neg (by omega)]
  · rw [if_neg (by omega)]
    have : ∀ T : Int → Bool, (tabA T)[j]? = none := fun T => Array.getElem?_eq_none (by rw [tabA_size]; omega)
    rw [this, this]
theorem tabTo_end (T : Int → Bool) : tabA (tabTo T 64) = tabA T := by
  apply Array.ext_getElem?
  intro j
  by_cases hj : j < 64
  · rw [tabA_at _ j hj, tabA_at _ j hj]
    unfold tabTo
    rw [if_pos (by omega)]
  · have : ∀ T : Int → Bool, (tabA T)[j]? = none := fun T => Array.getElem?_eq_none (by rw [tabA_size]; omega)
    rw [this, this]
theorem tabTo_zero (T : Int → Bool) : Array.replicate 64 (Value.bool false) = tabA (tabTo T 0) := by
  apply Array.ext_getElem?
  intro j
  by_cases hj : j < 64
  · rw [tabA_at _ j hj, Array.getElem?_replicate, if_pos hj]
    rfl
  · rw [Array.getElem?_replicate, if_neg hj, Array.getElem?_eq_none (by rw [tabA_size]; omega)]
theorem info_tab : (Try.prog.info? 49).map (fun i => (i.zero, i.size)) = some (some (.agg (Array.replicate 64 (.bool false))), 64) := by kernel_rfl
theorem built_tab : Try.prog.built 49 [] = some (Array.replicate 64 (.bool false)) := by kernel_rfl
theorem tab_oneCell (T : Int → Bool) : (tabA T).all (·.oneCell') = true := by
  rw [Array.all_eq_true]
  intro i hi
  rw [tabA_size] at hi
  have := tabA_at T i hi
  rw [Array.getElem?_eq_getElem (by rw [tabA_size]; exact hi)] at this
  rw [Option.some.inj this]
  rfl
theorem below_row {B g : Nat} {a w : World} (h : Below B a w) (hg : B ≤ g) (cs : Array Value) : Below B a (w.setRow g cs) :=
  ⟨h.os, h.tape, h.output, by rw [size_setRow]; exact h.size, fun k hk => (setRow_other _ _ _ _ (by omega)).trans (h.block k hk)⟩
set_option maxHeartbeats 4000000 in
set_option maxRecDepth 100000 in
theorem fallTable_calls (k : Nat) (A0 : Option Addr) (c0 : Nat) (l0 : List Int) (T : Int → Bool) (w : World) (hr0 : Kd.C (Kd.int .i64) w A0 l0.length l0) (hc0 : l0.length ≤ c0) (h : ∀ i : Nat, i < 64 → impl_falls.f k l0 (i : Nat) = some (T (i : Nat))) :
    Calls Try.prog 71 #[.slice A0 l0.length c0] w fun e w' => e = .returned (.agg (tabA T)) ∧ Below w.heap.size w w' := by
  have HR0 := Aside0.mk hr0
  have H := Aside0.mk h
  clear hr0 h
  have hz : ∀ w, (zeroValue 49).run Try.prog w = .ok (.agg (tabA (tabTo T 0))) w := by rw [← tabTo_zero T]; exact (zero_of_info info_tab).1
  have hbt : Try.prog.built 49 [] = some (tabA (tabTo T 0)) := by rw [← tabTo_zero T]; exact built_tab
  have hz1 := tab_oneCell (tabTo T 0)
  have hzs : (tabA (tabTo T 0)).size = 64 := tabA_size _
  obtain ⟨Z, hZ⟩ : ∃ Z, Z = tabA (tabTo T 0) := ⟨_, rfl⟩
  rw [← hZ] at hz hbt hz1 hzs
  have HZ := Aside0.mk hZ
  clear hZ
  go_enter Try.func71, Try.ntmps71
  go_wp2_with (first | ((with_reducible refine gate_ (.build 49 #[]) rfl ?_); refine wpList_build rfl 49 #[] rfl (by rw [show (Array.map (fun x => x) #[]).toList = ([] : List (Nat × Value)) from rfl, hbt]; rfl) ?_) | ((with_reducible refine gate_ (.store 49 (.tmp 3) (.tmp 5)) rfl ?_); refine wpList_store_row rfl 49 (.tmp 3) (.tmp 5) rfl (w.heap.size + 1) _ rfl rfl _ _ (heap_alloc2_new _ _ _) (by rw [hzs]; kernel_rfl) rfl hz1 ?_))
  have hA1 := heap_alloc2_new w (.cells Z 49) (.cells Z 49)
  have hA0 := heap_alloc2_old w (.cells Z 49) (.cells Z 49)
  have hS1 := Aside0.mk (setRow_heap _ _ _ Z _ _ hA1)
  have hS0 := Aside0.mk ((setRow_other _ (w.heap.size + 1) w.heap.size Z (by omega)).trans hA0)
  have HB0 := Aside0.mk (below_row (below_alloc (below_alloc (Below.refl w.heap.size w) (.cells Z 49)) (.cells Z 49)) (Nat.le_succ _) Z)
  clear hA0 hA1
  generalize ((w.alloc (.cells Z 49)).alloc (.cells Z 49)).setRow (w.heap.size + 1) Z = wS at hS0 hS1 HB0 ⊢
  clear hz hbt hz1 hzs
  go_loopw [6] (fun v w' => ∃ i : Nat, v = .int .i64 (i : Nat) ∧ i ≤ 64 ∧ Aside0 (w'.heap[w.heap.size]? = some (.cells Z 49 (0, 0))) ∧ Aside0 (w'.heap[w.heap.size + 1]? = some (.cells (tabA (tabTo T i)) 49 (0, 0))) ∧ Aside0 (Below w.heap.size w w')) (fun v w' => (64 - intOf v).toNat)
  case atStart => exact ⟨0, rfl, by omega, ⟨hS0.out⟩, ⟨by rw [← HZ.out]; exact hS1.out⟩, ⟨HB0.out⟩⟩
  case round =>
    obtain ⟨i, rfl, h0, HG, HT, HB⟩ := hrel
    by_cases hlt : i < 64
    · have hltb : decide ((i : Int) < 64) = true := decide_eq_true (by omega)
      have k1 : (0 ≤ (i : Int)) = True := eq_true (by omega)
      have k2 : ((i : Int) < 64) = True := eq_true (by omega)
      have h1 := H.out i hlt
      have HI := Aside0.mk h1
      clear h1
      go_wp2_with (first | (go_at_call 88; refine (impl_falls.calls k A0 c0 l0 (i : Int) _ _ (Kd.C_below HR0.out HB.out) hc0 HI.out).mono ?_; rintro e w1 ⟨rfl, hb⟩; have hg1 := blk_below HT.out hb; have c1 : w1.cell? ⟨w.heap.size + 1, i, none⟩ = some (.bool (tabTo T i i)) := (blk_cell hg1 i).trans (tabA_at _ i hlt); have f1 := blk_frozen hg1 i; have HT1 := Aside0.mk hg1; have HG1 := Aside0.mk (blk_below HG.out hb); clear hg1))
      go_roundw
      case measure => simp [intOf]; omega
      case rel => exact ⟨i + 1, by go_num, by omega, ⟨(heap_setCell_other _ _ _ _ (by simp)).trans HG1.out⟩, ⟨by rw [← tabTo_set T i hlt]; exact heap_setCell_same _ _ _ _ _ _ HT1.out⟩, ⟨(below_step HB.out hb).setCell (by simp) _⟩⟩
    · have hlt2 : i = 64 := by omega
      subst hlt2
      have hltb : decide (((64 : Nat) : Int) < 64) = false := rfl
      rw [tabTo_end] at HT
      go_wp2_with (first | ((with_reducible refine gate_ (.load 49 (.tmp 3)) rfl ?_); refine wpList_load_row rfl 49 (.tmp 3) rfl (w.heap.size + 1) rfl _ _ _ _ HT.out Try.underlying49 rfl (by rw [tabA_size]; kernel_rfl) ?_) | ((with_reducible refine gate_ (.store 49 (.tmp 2) (.tmp 15)) rfl ?_); refine wpList_store_row rfl 49 (.tmp 2) (.tmp 15) rfl w.heap.size _ rfl rfl _ _ HG.out (by rw [tabA_size]; kernel_rfl) (by rw [HZ.out, tabA_size, tabA_size]) (tab_oneCell T) ?_))
      refine bodyPost_ret (v := .agg (tabA T)) ?_ rfl ⟨rfl, below_row HB.out (Nat.le_refl _) _⟩
      exact results_cell_row (p := 2) rfl _ _ w.heap.size 49 (tabA T) (0, 0) _ rfl (setRow_heap _ _ _ _ _ _ HG.out) Try.underlying49 rfl (by rw [tabA_size]; kernel_rfl)
set_option maxHeartbeats 4000000 in
set_option maxRecDepth 100000 in
theorem l3Table_calls (k : Nat) (A0 : Option Addr) (c0 : Nat) (l0 : List Int) (T : Int → Bool) (w : World) (hr0 : Kd.C (Kd.int .i64) w A0 l0.length l0) (hc0 : l0.length ≤ c0) (h : ∀ i : Nat, i < 64 → spec_l3Falls.f k l0 (i : Nat) = some (T (i : Nat))) :
    Calls Try.prog 68 #[.slice A0 l0.length c0] w fun e w' => e = .returned (.agg (tabA T)) ∧ Below w.heap.size w w' := by
  have HR0 := Aside0.mk hr0
  have H := Aside0.mk h
  clear hr0 h
  have hz : ∀ w, (zeroValue 49).run Try.prog w = .ok (.agg (tabA (tabTo T 0))) w := by rw [← tabTo_zero T]; exact (zero_of_info info_tab).1
  have hbt : Try.prog.built 49 [] = some (tabA (tabTo T 0)) := by rw [← tabTo_zero T]; exact built_tab
  have hz1 := tab_oneCell (tabTo T 0)
  have hzs : (tabA (tabTo T 0)).size = 64 := tabA_size _
  obtain ⟨Z, hZ⟩ : ∃ Z, Z = tabA (tabTo T 0) := ⟨_, rfl⟩
  rw [← hZ] at hz hbt hz1 hzs
  have HZ := Aside0.mk hZ
  clear hZ
  go_enter Try.func68, Try.ntmps68
  go_wp2_with (first | ((with_reducible refine gate_ (.build 49 #[]) rfl ?_); refine wpList_build rfl 49 #[] rfl (by rw [show (Array.map (fun x => x) #[]).toList = ([] : List (Nat × Value)) from rfl, hbt]; rfl) ?_) | ((with_reducible refine gate_ (.store 49 (.tmp 3) (.tmp 5)) rfl ?_); refine wpList_store_row rfl 49 (.tmp 3) (.tmp 5) rfl (w.heap.size + 1) _ rfl rfl _ _ (heap_alloc2_new _ _ _) (by rw [hzs]; kernel_rfl) rfl hz1 ?_))
  have hA1 := heap_alloc2_new w (.cells Z 49) (.cells Z 49)
  have hA0 := heap_alloc2_old w (.cells Z 49) (.cells Z 49)
  have hS1 := Aside0.mk (setRow_heap _ _ _ Z _ _ hA1)
  have hS0 := Aside0.mk ((setRow_other _ (w.heap.size + 1) w.heap.size Z (by omega)).trans hA0)
  have HB0 := Aside0.mk (below_row (below_alloc (below_alloc (Below.refl w.heap.size w) (.cells Z 49)) (.cells Z 49)) (Nat.le_succ _) Z)
  clear hA0 hA1
  generalize ((w.alloc (.cells Z 49)).alloc (.cells Z 49)).setRow (w.heap.size + 1) Z = wS at hS0 hS1 HB0 ⊢
  clear hz hbt hz1 hzs
  go_loopw [4] (fun v w' => ∃ i : Nat, v = .int .i64 (i : Nat) ∧ i ≤ 64 ∧ Aside0 (w'.heap[w.heap.size]? = some (.cells Z 49 (0, 0))) ∧ Aside0 (w'.heap[w.heap.size + 1]? = some (.cells (tabA (tabTo T i)) 49 (0, 0))) ∧ Aside0 (Below w.heap.size w w')) (fun v w' => (64 - intOf v).toNat)
  case atStart => exact ⟨0, rfl, by omega, ⟨hS0.out⟩, ⟨by rw [← HZ.out]; exact hS1.out⟩, ⟨HB0.out⟩⟩
  case round =>
    obtain ⟨i, rfl, h0, HG, HT, HB⟩ := hrel
    by_cases hlt : i < 64
    · have hltb : decide ((i : Int) < 64) = true := decide_eq_true (by omega)
      have k1 : (0 ≤ (i : Int)) = True := eq_true (by omega)
      have k2 : ((i : Int) < 64) = True := eq_true (by omega)
      have h1 := H.out i hlt
      have HI := Aside0.mk h1
      clear h1
      go_wp2_with (first | (go_at_call 87; refine (spec_l3Falls.calls k A0 c0 l0 (i : Int) _ _ (Kd.C_below HR0.out HB.out) hc0 HI.out).mono ?_; rintro e w1 ⟨rfl, hb⟩; have hg1 := blk_below HT.out hb; have c1 : w1.cell? ⟨w.heap.size + 1, i, none⟩ = some (.bool (tabTo T i i)) := (blk_cell hg1 i).trans (tabA_at _ i hlt); have f1 := blk_frozen hg1 i; have HT1 := Aside0.mk hg1; have HG1 := Aside0.mk (blk_below HG.out hb); clear hg1))
      go_roundw
      case measure => simp [intOf]; omega
      case rel => exact ⟨i + 1, by go_num, by omega, ⟨(heap_setCell_other _ _ _ _ (by simp)).trans HG1.out⟩, ⟨by rw [← tabTo_set T i hlt]; exact heap_setCell_same _ _ _ _ _ _ HT1.out⟩, ⟨(below_step HB.out hb).setCell (by simp) _⟩⟩
    · have hlt2 : i = 64 := by omega
      subst hlt2
      have hltb : decide (((64 : Nat) : Int) < 64) = false := rfl
      rw [tabTo_end] at HT
      go_wp2_with (first | ((with_reducible refine gate_ (.load 49 (.tmp 3)) rfl ?_); refine wpList_load_row rfl 49 (.tmp 3) rfl (w.heap.size + 1) rfl _ _ _ _ HT.out Try.underlying49 rfl (by rw [tabA_size]; kernel_rfl) ?_) | ((with_reducible refine gate_ (.store 49 (.tmp 2) (.tmp 15)) rfl ?_); refine wpList_store_row rfl 49 (.tmp 2) (.tmp 15) rfl w.heap.size _ rfl rfl _ _ HG.out (by rw [tabA_size]; kernel_rfl) (by rw [HZ.out, tabA_size, tabA_size]) (tab_oneCell T) ?_))
      refine bodyPost_ret (v := .agg (tabA T)) ?_ rfl ⟨rfl, below_row HB.out (Nat.le_refl _) _⟩
      exact results_cell_row (p := 2) rfl _ _ w.heap.size 49 (tabA T) (0, 0) _ rfl (setRow_heap _ _ _ _ _ _ HG.out) Try.underlying49 rfl (by rw [tabA_size]; kernel_rfl)
end Go.Proofs.Ytgifhmjbmnopcaa.Giv
