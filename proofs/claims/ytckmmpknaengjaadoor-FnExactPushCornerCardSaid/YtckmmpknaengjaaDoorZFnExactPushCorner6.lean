/- What the row of FnExactPushCorner leans on (part 6): of the printed words and functions, of the contracts and of the plain facts only what it uses; no condition of its own. -/
import Derived.Test.YtckmmpknaengjaaDoorZFnExactPushCorner5
section
namespace Go.Proofs.YtckmmpknaengjaaDoor.Px
end Go.Proofs.YtckmmpknaengjaaDoor.Px
namespace Go.Proofs.YtckmmpknaengjaaDoor.Giv
end Go.Proofs.YtckmmpknaengjaaDoor.Giv
namespace Go.Proofs.YtckmmpknaengjaaDoor.Px
open Go.Proofs.YtckmmpknaengjaaDoor.Giv
open Go.RowKit Go.Proofs.YtckmmpknaengjaaDoorW.PrintWords Go.Proofs.YtckmmpknaengjaaDoorW.PrintLast Go.Proofs.YtckmmpknaengjaaDoorW.PrintMore
attribute [local go_sem] max2_int min2_int max_two min_two max_three min_three max_four min_four
set_option linter.unusedVariables false
set_option linter.unusedSimpArgs false
def impl_corner.f (a0 : ByteArray) (l1 : List (S54)) (a2 : Int) : Option (Bool × Bool) := if a2 < 0 then (some (false, false)) else (if a2 > (wrap64 ((a0.size : Int) - 2)) then (some (false, false)) else (if 0 ≤ a2 then (if a2 < (a0.size : Int) then ((impl_isAside.f (bt a0 a2)).bind fun t355 => (if 0 ≤ (wrap64 (a2 + 1)) then (if (wrap64 (a2 + 1)) < (a0.size : Int) then ((impl_isAside.f (bt a0 (wrap64 (a2 + 1)))).bind fun t356 => (if (t355 == t356) = true then (some (false, false)) else (if a2 < (l1.length : Int) then (if 0 ≤ (wrap64 (a2 + 2)) then (if (wrap64 (a2 + 2)) < (l1.length : Int) then (if (mn ((rd_T54 l1 a2).f1) ((rd_T54 l1 (wrap64 (a2 + 2))).f1)) = 0 then ((impl_isNail.f (mn ((rd_T54 l1 a2).f0) ((rd_T54 l1 (wrap64 (a2 + 2))).f0))).bind fun t361 => (some (true, !t361))) else (some (true, true))) else (none)) else (none)) else (none)))) else (none)) else (none))) else (none)) else (none)))
def impl_corner.T1 : Bool × List (List Nat × List Nat) := (true, [([], []), ([0], [0]), ([1], [1]), ([2], [2]), ([2], [2]), ([4, 2], [2, 4]), ([5, 2], [2, 5]), ([3, 6, 2], [2, 3, 6]), ([2, 7], [2, 7]), ([8, 2], [8]), ([9], [9]), ([9], [9]), ([10, 11, 9], [9, 10, 11]), ([12, 9, 9], [9, 12]), ([9], [9]), ([9], [9]), ([15, 9], [9, 15]), ([14, 16, 9], [9, 14, 16]), ([17, 13, 9], [9, 17]), ([13, 18, 9], [9, 13, 18]), ([9, 19], [9, 19])])
def impl_corner.B1 : List Nat := [0, 1, 3, 7, 7, 23, 55, 127, 255, 511, 1023, 1023, 4095, 8191, 1023, 1023, 33791, 115711, 262143, 524287, 1048575]
theorem impl_corner.tab1 : rtab .any (opsOf Tryd.f50 1) = impl_corner.T1 := by kernel_rfl
theorem impl_corner.bits1 : waitsOk impl_corner.T1.2 impl_corner.B1 = true := by kernel_rfl
def impl_corner.T3 : Bool × List (List Nat × List Nat) := (true, [([], []), ([], []), ([0, 1], [0, 1]), ([2], [2]), ([], []), ([], []), ([5], [5]), ([4, 6], [4, 6]), ([7], [7]), ([], []), ([], []), ([9, 3, 0, 1, 2, 3, 9, 10], [3, 9]), ([10, 8, 11, 0, 1, 2, 3, 4, 5, 6, 7, 8, 9, 10, 11], [8, 10])])
def impl_corner.B3 : List Nat := [0, 0, 3, 7, 0, 0, 32, 112, 240, 0, 0, 1551, 4095]
theorem impl_corner.tab3 : rtab .any (opsOf Tryd.f50 3) = impl_corner.T3 := by kernel_rfl
theorem impl_corner.bits3 : waitsOk impl_corner.T3.2 impl_corner.B3 = true := by kernel_rfl
set_option maxHeartbeats 8000000 in
set_option maxRecDepth 100000 in
theorem impl_corner.calls (a0 : ByteArray) (A1 : Option Addr) (c1 : Nat) (l1 : List (S54)) (a2 : Int) (r1 : Bool) (r2 : Bool) (w : World) (hr1 : Kd.C k54 w A1 l1.length l1) (hc1 : l1.length ≤ c1) (h : impl_corner.f a0 l1 a2 = some (r1, r2)) :
  Calls Tryd.prog 50 #[.string a0, .slice A1 l1.length c1, .int .i64 a2] w fun e w' => e = .returned (.tuple #[.bool r1, .bool r2]) ∧ Below w.heap.size w w' := by
 have hu54 := Tryd.underlying54
 have HR1 := Aside0.mk hr1
 have HC1 := Aside0.mk hc1
 clear hr1 hc1
 have HB := Aside0.mk (Below.refl w.heap.size w)
 have H : (if a2 < 0 then (some (false, false)) else (if a2 > (wrap64 ((a0.size : Int) - 2)) then (some (false, false)) else (if 0 ≤ a2 then (if a2 < (a0.size : Int) then ((impl_isAside.f (bt a0 a2)).bind fun t355 => (if 0 ≤ (wrap64 (a2 + 1)) then (if (wrap64 (a2 + 1)) < (a0.size : Int) then ((impl_isAside.f (bt a0 (wrap64 (a2 + 1)))).bind fun t356 => (if (t355 == t356) = true then (some (false, false)) else (if a2 < (l1.length : Int) then (if 0 ≤ (wrap64 (a2 + 2)) then (if (wrap64 (a2 + 2)) < (l1.length : Int) then (if (mn ((rd_T54 l1 a2).f1) ((rd_T54 l1 (wrap64 (a2 + 2))).f1)) = 0 then ((impl_isNail.f (mn ((rd_T54 l1 a2).f0) ((rd_T54 l1 (wrap64 (a2 + 2))).f0))).bind fun t361 => (some (true, !t361))) else (some (true, true))) else (none)) else (none)) else (none)))) else (none)) else (none))) else (none)) else (none)))) = some (r1, r2) := h
 clear h
 by_cases c4 : a2 < 0
 ·rw [if_pos c4] at H
  have c4b0 : decide (a2 < 0) = true := decide_eq_true c4
  clear c4
  simp only [Option.some.injEq, Prod.mk.injEq] at H
  obtain ⟨rfl, rfl⟩ := H
  go_enter Tryd.func50, Tryd.ntmps50
  try go_wp2
  have n0_ := Aside0.mk (below_drew1 HB.out)
  clear HB
  have HB := n0_
  clear n0_
  refine start_ (n := 21) (S := fun w' => True) (ds := []) #[false, false, false, false, false, false, false, false, false, false, false, false, false, false, false, false, false, false, false, false, false] (by kernel_rfl) rfl rfl trivial (fun hHeld => ?_); refine with_tabW impl_corner.tab1 impl_corner.bits1 (fun HT_ HW_ => ?_)
  generalize w.drew = w5 at HB hHeld ⊢
  refine pure_ (i := 0) (N := some 10) (v := ?_) (a' := ?_) #[true, false, false, false, false, false, false, false, false, false, false, false, false, false, false, false, false, false, false, false, false] rfl rfl (any_of HT_.out (by kernel_rfl)) (fun _ _ _ h => h) (Or.inl ⟨by rfl, ?_⟩) ?_ ?_
  rotate_left
  ·intro w'
   go_simp
   with_reducible rfl
  rotate_left
  ·simp only [Act.put, List.setIfInBounds_toArray, List.set_cons_zero, List.set_cons_succ, i64_w, i32_w]
   rfl
  refine pure_ (i := 1) (N := some 11) (v := ?_) (a' := ?_) #[true, true, false, false, false, false, false, false, false, false, false, false, false, false, false, false, false, false, false, false, false] rfl rfl (any_of HT_.out (by kernel_rfl)) (fun _ _ _ h => h) (Or.inl ⟨by rfl, ?_⟩) ?_ ?_
  rotate_left
  ·intro w'
   go_simp
   with_reducible rfl
  rotate_left
  ·simp only [Act.put, List.setIfInBounds_toArray, List.set_cons_zero, List.set_cons_succ, i64_w, i32_w]
   rfl
  refine pure_ (i := 2) (N := some 12) (v := ?_) (a' := ?_) #[true, true, true, false, false, false, false, false, false, false, false, false, false, false, false, false, false, false, false, false, false] rfl rfl (any_of HT_.out (by kernel_rfl)) (fun _ _ _ h => h) (Or.inl ⟨by rfl, ?_⟩) ?_ ?_
  rotate_left
  ·intro w'
   go_simp
   with_reducible rfl
  rotate_left
  ·simp only [Act.put, List.setIfInBounds_toArray, List.set_cons_zero, List.set_cons_succ, i64_w, i32_w]
   rfl
  refine pure_ (i := 3) (N := some 13) (v := undef) (a' := ?_) #[true, true, true, true, false, false, false, false, false, false, false, false, false, false, false, false, false, false, false, false, false] rfl rfl (any_of HT_.out (by kernel_rfl)) (fun _ _ _ h => h) (Or.inr ⟨by rfl, rfl⟩) ?_ ?_
  rotate_left
  ·simp only [Act.put, List.setIfInBounds_toArray, List.set_cons_zero, List.set_cons_succ, i64_w, i32_w]
   rfl
  refine pure_ (i := 4) (N := some 14) (v := undef) (a' := ?_) #[true, true, true, true, true, false, false, false, false, false, false, false, false, false, false, false, false, false, false, false, false] rfl rfl (any_of HT_.out (by kernel_rfl)) (fun _ _ _ h => h) (Or.inr ⟨by rfl, rfl⟩) ?_ ?_
  rotate_left
  ·simp only [Act.put, List.setIfInBounds_toArray, List.set_cons_zero, List.set_cons_succ, i64_w, i32_w]
   rfl
  refine pure_ (i := 5) (N := some 15) (v := undef) (a' := ?_) #[true, true, true, true, true, true, false, false, false, false, false, false, false, false, false, false, false, false, false, false, false] rfl rfl (any_of HT_.out (by kernel_rfl)) (fun _ _ _ h => h) (Or.inr ⟨by rfl, rfl⟩) ?_ ?_
  rotate_left
  ·simp only [Act.put, List.setIfInBounds_toArray, List.set_cons_zero, List.set_cons_succ, i64_w, i32_w]
   rfl
  refine pure_ (i := 6) (N := some 16) (v := undef) (a' := ?_) #[true, true, true, true, true, true, true, false, false, false, false, false, false, false, false, false, false, false, false, false, false] rfl rfl (any_of HT_.out (by kernel_rfl)) (fun _ _ _ h => h) (Or.inr ⟨by rfl, rfl⟩) ?_ ?_
  rotate_left
  ·simp only [Act.put, List.setIfInBounds_toArray, List.set_cons_zero, List.set_cons_succ, i64_w, i32_w]
   rfl
  refine pure_ (i := 7) (N := some 17) (v := undef) (a' := ?_) #[true, true, true, true, true, true, true, true, false, false, false, false, false, false, false, false, false, false, false, false, false] rfl rfl (any_of HT_.out (by kernel_rfl)) (fun _ _ _ h => h) (Or.inr ⟨by rfl, rfl⟩) ?_ ?_
  rotate_left
  ·simp only [Act.put, List.setIfInBounds_toArray, List.set_cons_zero, List.set_cons_succ, i64_w, i32_w]
   rfl
  refine pure_ (i := 8) (N := some 18) (v := ?_) (a' := ?_) #[true, true, true, true, true, true, true, true, true, false, false, false, false, false, false, false, false, false, false, false, false] rfl rfl (any_of HT_.out (by kernel_rfl)) (fun _ _ _ h => h) (Or.inl ⟨by rfl, ?_⟩) ?_ ?_
  rotate_left
  ·intro w'
   go_simp
   with_reducible rfl
  rotate_left
  ·simp only [Act.put, List.setIfInBounds_toArray, List.set_cons_zero, List.set_cons_succ, i64_w, i32_w]
   rfl
  refine pure_ (i := 9) (N := some 19) (v := ?_) (a' := ?_) #[true, true, true, true, true, true, true, true, true, true, false, false, false, false, false, false, false, false, false, false, false] rfl rfl (any_of HT_.out (by kernel_rfl)) (fun _ _ _ h => h) (Or.inl ⟨by rfl, ?_⟩) ?_ ?_
  rotate_left
  ·intro w'
   go_simp
   with_reducible rfl
  rotate_left
  ·simp only [Act.put, List.setIfInBounds_toArray, List.set_cons_zero, List.set_cons_succ, i64_w, i32_w]
   rfl
  refine pure_ (i := 10) (N := some 20) (v := undef) (a' := ?_) #[true, true, true, true, true, true, true, true, true, true, true, false, false, false, false, false, false, false, false, false, false] rfl rfl (any_of HT_.out (by kernel_rfl)) (fun _ _ _ h => h) (Or.inr ⟨by rfl, rfl⟩) ?_ ?_
  rotate_left
  ·simp only [Act.put, List.setIfInBounds_toArray, List.set_cons_zero, List.set_cons_succ, i64_w, i32_w]
   rfl
  refine pure_ (i := 11) (N := some 21) (v := undef) (a' := ?_) #[true, true, true, true, true, true, true, true, true, true, true, true, false, false, false, false, false, false, false, false, false] rfl rfl (any_of HT_.out (by kernel_rfl)) (fun _ _ _ h => h) (Or.inr ⟨by rfl, rfl⟩) ?_ ?_
  rotate_left
  ·simp only [Act.put, List.setIfInBounds_toArray, List.set_cons_zero, List.set_cons_succ, i64_w, i32_w]
   rfl
  refine pure_ (i := 12) (N := some 22) (v := undef) (a' := ?_) #[true, true, true, true, true, true, true, true, true, true, true, true, true, false, false, false, false, false, false, false, false] rfl rfl (any_of HT_.out (by kernel_rfl)) (fun _ _ _ h => h) (Or.inr ⟨by rfl, rfl⟩) ?_ ?_
  rotate_left
  ·simp only [Act.put, List.setIfInBounds_toArray, List.set_cons_zero, List.set_cons_succ, i64_w, i32_w]
   rfl
  refine pure_ (i := 13) (N := some 23) (v := undef) (a' := ?_) #[true, true, true, true, true, true, true, true, true, true, true, true, true, true, false, false, false, false, false, false, false] rfl rfl (any_of HT_.out (by kernel_rfl)) (fun _ _ _ h => h) (Or.inr ⟨by rfl, rfl⟩) ?_ ?_
  rotate_left
  ·simp only [Act.put, List.setIfInBounds_toArray, List.set_cons_zero, List.set_cons_succ, i64_w, i32_w]
   rfl
  refine pure_ (i := 14) (N := some 24) (v := undef) (a' := ?_) #[true, true, true, true, true, true, true, true, true, true, true, true, true, true, true, false, false, false, false, false, false] rfl rfl (any_of HT_.out (by kernel_rfl)) (fun _ _ _ h => h) (Or.inr ⟨by rfl, rfl⟩) ?_ ?_
  rotate_left
  ·simp only [Act.put, List.setIfInBounds_toArray, List.set_cons_zero, List.set_cons_succ, i64_w, i32_w]
   rfl
  refine pure_ (i := 15) (N := some 25) (v := undef) (a' := ?_) #[true, true, true, true, true, true, true, true, true, true, true, true, true, true, true, true, false, false, false, false, false] rfl rfl (any_of HT_.out (by kernel_rfl)) (fun _ _ _ h => h) (Or.inr ⟨by rfl, rfl⟩) ?_ ?_
  rotate_left
  ·simp only [Act.put, List.setIfInBounds_toArray, List.set_cons_zero, List.set_cons_succ, i64_w, i32_w]
   rfl
  refine pure_ (i := 16) (N := some 26) (v := undef) (a' := ?_) #[true, true, true, true, true, true, true, true, true, true, true, true, true, true, true, true, true, false, false, false, false] rfl rfl (any_of HT_.out (by kernel_rfl)) (fun _ _ _ h => h) (Or.inr ⟨by rfl, rfl⟩) ?_ ?_
  rotate_left
  ·simp only [Act.put, List.setIfInBounds_toArray, List.set_cons_zero, List.set_cons_succ, i64_w, i32_w]
   rfl
  refine pure_ (i := 17) (N := some 27) (v := undef) (a' := ?_) #[true, true, true, true, true, true, true, true, true, true, true, true, true, true, true, true, true, true, false, false, false] rfl rfl (any_of HT_.out (by kernel_rfl)) (fun _ _ _ h => h) (Or.inr ⟨by rfl, rfl⟩) ?_ ?_
  rotate_left
  ·simp only [Act.put, List.setIfInBounds_toArray, List.set_cons_zero, List.set_cons_succ, i64_w, i32_w]
   rfl
  refine pure_ (i := 18) (N := some 28) (v := undef) (a' := ?_) #[true, true, true, true, true, true, true, true, true, true, true, true, true, true, true, true, true, true, true, false, false] rfl rfl (any_of HT_.out (by kernel_rfl)) (fun _ _ _ h => h) (Or.inr ⟨by rfl, rfl⟩) ?_ ?_
  rotate_left
  ·simp only [Act.put, List.setIfInBounds_toArray, List.set_cons_zero, List.set_cons_succ, i64_w, i32_w]
   rfl
  refine pure_ (i := 19) (N := some 29) (v := undef) (a' := ?_) #[true, true, true, true, true, true, true, true, true, true, true, true, true, true, true, true, true, true, true, true, false] rfl rfl (any_of HT_.out (by kernel_rfl)) (fun _ _ _ h => h) (Or.inr ⟨by rfl, rfl⟩) ?_ ?_
  rotate_left
  ·simp only [Act.put, List.setIfInBounds_toArray, List.set_cons_zero, List.set_cons_succ, i64_w, i32_w]
   rfl
  refine pure_ (i := 20) (N := some 30) (v := ?_) (a' := ?_) #[true, true, true, true, true, true, true, true, true, true, true, true, true, true, true, true, true, true, true, true, true] rfl rfl (any_of HT_.out (by kernel_rfl)) (fun _ _ _ h => h) (Or.inl ⟨by rfl, ?_⟩) ?_ ?_
  rotate_left
  ·intro w'
   go_simp
   with_reducible rfl
  rotate_left
  ·simp only [Act.put, List.setIfInBounds_toArray, List.set_cons_zero, List.set_cons_succ, i64_w, i32_w]
   rfl
  refine done_ (done_of HT_.out (by kernel_rfl)) ?_
  try go_wp2
  go_ret2
  exact ⟨by first | rfl | (simp [errW_none, errW_some] <;> rfl) | (simp [*, errW_none, errW_some] <;> rfl), by repeat (first | (with_reducible first | exact HB.out | apply below_alloc | apply pw_below_drewN | apply below_drew1) | exact HB.out)⟩
 ·rw [if_neg c4] at H
  have c4b0 : decide (a2 < 0) = false := decide_eq_false c4
  clear c4
  by_cases c6 : a2 > (wrap64 ((a0.size : Int) - 2))
  ·rw [if_pos c6] at H
   have c6b0 : decide ((wrap64 ((a0.size : Int) - 2)) < a2) = true := decide_eq_true c6
   clear c6
   simp only [Option.some.injEq, Prod.mk.injEq] at H
   obtain ⟨rfl, rfl⟩ := H
   go_enter Tryd.func50, Tryd.ntmps50
   try go_wp2
   have n0_ := Aside0.mk (below_drew1 HB.out)
   clear HB
   have HB := n0_
   clear n0_
   refine start_ (n := 21) (S := fun w' => True) (ds := []) #[false, false, false, false, false, false, false, false, false, false, false, false, false, false, false, false, false, false, false, false, false] (by kernel_rfl) rfl rfl trivial (fun hHeld => ?_); refine with_tabW impl_corner.tab1 impl_corner.bits1 (fun HT_ HW_ => ?_)
   generalize w.drew = w7 at HB hHeld ⊢
   refine pure_ (i := 0) (N := some 10) (v := ?_) (a' := ?_) #[true, false, false, false, false, false, false, false, false, false, false, false, false, false, false, false, false, false, false, false, false] rfl rfl (any_of HT_.out (by kernel_rfl)) (fun _ _ _ h => h) (Or.inl ⟨by rfl, ?_⟩) ?_ ?_
   rotate_left
   ·intro w'
    go_simp
    with_reducible rfl
   rotate_left
   ·simp only [Act.put, List.setIfInBounds_toArray, List.set_cons_zero, List.set_cons_succ, i64_w, i32_w]
    rfl
   refine pure_ (i := 1) (N := some 11) (v := ?_) (a' := ?_) #[true, true, false, false, false, false, false, false, false, false, false, false, false, false, false, false, false, false, false, false, false] rfl rfl (any_of HT_.out (by kernel_rfl)) (fun _ _ _ h => h) (Or.inl ⟨by rfl, ?_⟩) ?_ ?_
   rotate_left
   ·intro w'
    go_simp
    with_reducible rfl
   rotate_left
   ·simp only [Act.put, List.setIfInBounds_toArray, List.set_cons_zero, List.set_cons_succ, i64_w, i32_w]
    rfl
   refine pure_ (i := 2) (N := some 12) (v := ?_) (a' := ?_) #[true, true, true, false, false, false, false, false, false, false, false, false, false, false, false, false, false, false, false, false, false] rfl rfl (any_of HT_.out (by kernel_rfl)) (fun _ _ _ h => h) (Or.inl ⟨by rfl, ?_⟩) ?_ ?_
   rotate_left
   ·intro w'
    go_simp
    with_reducible rfl
   rotate_left
   ·simp only [Act.put, List.setIfInBounds_toArray, List.set_cons_zero, List.set_cons_succ, i64_w, i32_w]
    rfl
   refine pure_ (i := 3) (N := some 13) (v := ?_) (a' := ?_) #[true, true, true, true, false, false, false, false, false, false, false, false, false, false, false, false, false, false, false, false, false] rfl rfl (any_of HT_.out (by kernel_rfl)) (fun _ _ _ h => h) (Or.inl ⟨by rfl, ?_⟩) ?_ ?_
   rotate_left
   ·intro w'
    go_simp
    with_reducible rfl
   rotate_left
   ·simp only [Act.put, List.setIfInBounds_toArray, List.set_cons_zero, List.set_cons_succ, i64_w, i32_w]
    rfl
   refine pure_ (i := 4) (N := some 14) (v := ?_) (a' := ?_) #[true, true, true, true, true, false, false, false, false, false, false, false, false, false, false, false, false, false, false, false, false] rfl rfl (any_of HT_.out (by kernel_rfl)) (fun _ _ _ h => h) (Or.inl ⟨by rfl, ?_⟩) ?_ ?_
   rotate_left
   ·intro w'
    go_simp
    with_reducible rfl
   rotate_left
   ·simp only [Act.put, List.setIfInBounds_toArray, List.set_cons_zero, List.set_cons_succ, i64_w, i32_w]
    rfl
   refine pure_ (i := 5) (N := some 15) (v := ?_) (a' := ?_) #[true, true, true, true, true, true, false, false, false, false, false, false, false, false, false, false, false, false, false, false, false] rfl rfl (any_of HT_.out (by kernel_rfl)) (fun _ _ _ h => h) (Or.inl ⟨by rfl, ?_⟩) ?_ ?_
   rotate_left
   ·intro w'
    go_simp
    with_reducible rfl
   rotate_left
   ·simp only [Act.put, List.setIfInBounds_toArray, List.set_cons_zero, List.set_cons_succ, i64_w, i32_w]
    rfl
   refine pure_ (i := 6) (N := some 16) (v := ?_) (a' := ?_) #[true, true, true, true, true, true, true, false, false, false, false, false, false, false, false, false, false, false, false, false, false] rfl rfl (any_of HT_.out (by kernel_rfl)) (fun _ _ _ h => h) (Or.inl ⟨by rfl, ?_⟩) ?_ ?_
   rotate_left
   ·intro w'
    go_simp
    with_reducible rfl
   rotate_left
   ·simp only [Act.put, List.setIfInBounds_toArray, List.set_cons_zero, List.set_cons_succ, i64_w, i32_w]
    rfl
   refine pure_ (i := 7) (N := some 17) (v := ?_) (a' := ?_) #[true, true, true, true, true, true, true, true, false, false, false, false, false, false, false, false, false, false, false, false, false] rfl rfl (any_of HT_.out (by kernel_rfl)) (fun _ _ _ h => h) (Or.inl ⟨by rfl, ?_⟩) ?_ ?_
   rotate_left
   ·intro w'
    go_simp
    with_reducible rfl
   rotate_left
   ·simp only [Act.put, List.setIfInBounds_toArray, List.set_cons_zero, List.set_cons_succ, i64_w, i32_w]
    rfl
   refine pure_ (i := 8) (N := some 18) (v := ?_) (a' := ?_) #[true, true, true, true, true, true, true, true, true, false, false, false, false, false, false, false, false, false, false, false, false] rfl rfl (any_of HT_.out (by kernel_rfl)) (fun _ _ _ h => h) (Or.inl ⟨by rfl, ?_⟩) ?_ ?_
   rotate_left
   ·intro w'
    go_simp
    with_reducible rfl
   rotate_left
   ·simp only [Act.put, List.setIfInBounds_toArray, List.set_cons_zero, List.set_cons_succ, i64_w, i32_w]
    rfl
   refine pure_ (i := 9) (N := some 19) (v := ?_) (a' := ?_) #[true, true, true, true, true, true, true, true, true, true, false, false, false, false, false, false, false, false, false, false, false] rfl rfl (any_of HT_.out (by kernel_rfl)) (fun _ _ _ h => h) (Or.inl ⟨by rfl, ?_⟩) ?_ ?_
   rotate_left
   ·intro w'
    go_simp
    with_reducible rfl
   rotate_left
   ·simp only [Act.put, List.setIfInBounds_toArray, List.set_cons_zero, List.set_cons_succ, i64_w, i32_w]
    rfl
   refine pure_ (i := 10) (N := some 20) (v := undef) (a' := ?_) #[true, true, true, true, true, true, true, true, true, true, true, false, false, false, false, false, false, false, false, false, false] rfl rfl (any_of HT_.out (by kernel_rfl)) (fun _ _ _ h => h) (Or.inr ⟨by rfl, rfl⟩) ?_ ?_
   rotate_left
   ·simp only [Act.put, List.setIfInBounds_toArray, List.set_cons_zero, List.set_cons_succ, i64_w, i32_w]
    rfl
   refine pure_ (i := 11) (N := some 21) (v := undef) (a' := ?_) #[true, true, true, true, true, true, true, true, true, true, true, true, false, false, false, false, false, false, false, false, false] rfl rfl (any_of HT_.out (by kernel_rfl)) (fun _ _ _ h => h) (Or.inr ⟨by rfl, rfl⟩) ?_ ?_
   rotate_left
   ·simp only [Act.put, List.setIfInBounds_toArray, List.set_cons_zero, List.set_cons_succ, i64_w, i32_w]
    rfl
   refine pure_ (i := 12) (N := some 22) (v := undef) (a' := ?_) #[true, true, true, true, true, true, true, true, true, true, true, true, true, false, false, false, false, false, false, false, false] rfl rfl (any_of HT_.out (by kernel_rfl)) (fun _ _ _ h => h) (Or.inr ⟨by rfl, rfl⟩) ?_ ?_
   rotate_left
   ·simp only [Act.put, List.setIfInBounds_toArray, List.set_cons_zero, List.set_cons_succ, i64_w, i32_w]
    rfl
   refine pure_ (i := 13) (N := some 23) (v := undef) (a' := ?_) #[true, true, true, true, true, true, true, true, true, true, true, true, true, true, false, false, false, false, false, false, false] rfl rfl (any_of HT_.out (by kernel_rfl)) (fun _ _ _ h => h) (Or.inr ⟨by rfl, rfl⟩) ?_ ?_
   rotate_left
   ·simp only [Act.put, List.setIfInBounds_toArray, List.set_cons_zero, List.set_cons_succ, i64_w, i32_w]
    rfl
   refine pure_ (i := 14) (N := some 24) (v := undef) (a' := ?_) #[true, true, true, true, true, true, true, true, true, true, true, true, true, true, true, false, false, false, false, false, false] rfl rfl (any_of HT_.out (by kernel_rfl)) (fun _ _ _ h => h) (Or.inr ⟨by rfl, rfl⟩) ?_ ?_
   rotate_left
   ·simp only [Act.put, List.setIfInBounds_toArray, List.set_cons_zero, List.set_cons_succ, i64_w, i32_w]
    rfl
   refine pure_ (i := 15) (N := some 25) (v := undef) (a' := ?_) #[true, true, true, true, true, true, true, true, true, true, true, true, true, true, true, true, false, false, false, false, false] rfl rfl (any_of HT_.out (by kernel_rfl)) (fun _ _ _ h => h) (Or.inr ⟨by rfl, rfl⟩) ?_ ?_
   rotate_left
   ·simp only [Act.put, List.setIfInBounds_toArray, List.set_cons_zero, List.set_cons_succ, i64_w, i32_w]
    rfl
   refine pure_ (i := 16) (N := some 26) (v := undef) (a' := ?_) #[true, true, true, true, true, true, true, true, true, true, true, true, true, true, true, true, true, false, false, false, false] rfl rfl (any_of HT_.out (by kernel_rfl)) (fun _ _ _ h => h) (Or.inr ⟨by rfl, rfl⟩) ?_ ?_
   rotate_left
   ·simp only [Act.put, List.setIfInBounds_toArray, List.set_cons_zero, List.set_cons_succ, i64_w, i32_w]
    rfl
   refine pure_ (i := 17) (N := some 27) (v := undef) (a' := ?_) #[true, true, true, true, true, true, true, true, true, true, true, true, true, true, true, true, true, true, false, false, false] rfl rfl (any_of HT_.out (by kernel_rfl)) (fun _ _ _ h => h) (Or.inr ⟨by rfl, rfl⟩) ?_ ?_
   rotate_left
   ·simp only [Act.put, List.setIfInBounds_toArray, List.set_cons_zero, List.set_cons_succ, i64_w, i32_w]
    rfl
   refine pure_ (i := 18) (N := some 28) (v := undef) (a' := ?_) #[true, true, true, true, true, true, true, true, true, true, true, true, true, true, true, true, true, true, true, false, false] rfl rfl (any_of HT_.out (by kernel_rfl)) (fun _ _ _ h => h) (Or.inr ⟨by rfl, rfl⟩) ?_ ?_
   rotate_left
   ·simp only [Act.put, List.setIfInBounds_toArray, List.set_cons_zero, List.set_cons_succ, i64_w, i32_w]
    rfl
   refine pure_ (i := 19) (N := some 29) (v := undef) (a' := ?_) #[true, true, true, true, true, true, true, true, true, true, true, true, true, true, true, true, true, true, true, true, false] rfl rfl (any_of HT_.out (by kernel_rfl)) (fun _ _ _ h => h) (Or.inr ⟨by rfl, rfl⟩) ?_ ?_
   rotate_left
   ·simp only [Act.put, List.setIfInBounds_toArray, List.set_cons_zero, List.set_cons_succ, i64_w, i32_w]
    rfl
   refine pure_ (i := 20) (N := some 30) (v := ?_) (a' := ?_) #[true, true, true, true, true, true, true, true, true, true, true, true, true, true, true, true, true, true, true, true, true] rfl rfl (any_of HT_.out (by kernel_rfl)) (fun _ _ _ h => h) (Or.inl ⟨by rfl, ?_⟩) ?_ ?_
   rotate_left
   ·intro w'
    go_simp
    with_reducible rfl
   rotate_left
   ·simp only [Act.put, List.setIfInBounds_toArray, List.set_cons_zero, List.set_cons_succ, i64_w, i32_w]
    rfl
   refine done_ (done_of HT_.out (by kernel_rfl)) ?_
   try go_wp2
   go_ret2
   exact ⟨by first | rfl | (simp [errW_none, errW_some] <;> rfl) | (simp [*, errW_none, errW_some] <;> rfl), by repeat (first | (with_reducible first | exact HB.out | apply below_alloc | apply pw_below_drewN | apply below_drew1) | exact HB.out)⟩
  ·rw [if_neg c6] at H
   have c6b0 : decide ((wrap64 ((a0.size : Int) - 2)) < a2) = false := decide_eq_false c6
   clear c6
   by_cases c8 : 0 ≤ a2
   ·rw [if_pos c8] at H
    have c8b0 : decide (0 ≤ a2) = true := decide_eq_true c8
    clear c8
    by_cases c9 : a2 < (a0.size : Int)
    ·rw [if_pos c9] at H
     have c9b0 : decide (a2 < (a0.size : Int)) = true := decide_eq_true c9
     clear c9
     replace H := Option.bind_eq_some_iff.mp H
     obtain ⟨t355, A110, H⟩ := H
     replace H : (if 0 ≤ (wrap64 (a2 + 1)) then (if (wrap64 (a2 + 1)) < (a0.size : Int) then ((impl_isAside.f (bt a0 (wrap64 (a2 + 1)))).bind fun t356 => (if (t355 == t356) = true then (some (false, false)) else (if a2 < (l1.length : Int) then (if 0 ≤ (wrap64 (a2 + 2)) then (if (wrap64 (a2 + 2)) < (l1.length : Int) then (if (mn ((rd_T54 l1 a2).f1) ((rd_T54 l1 (wrap64 (a2 + 2))).f1)) = 0 then ((impl_isNail.f (mn ((rd_T54 l1 a2).f0) ((rd_T54 l1 (wrap64 (a2 + 2))).f0))).bind fun t361 => (some (true, !t361))) else (some (true, true))) else (none)) else (none)) else (none)))) else (none)) else (none)) = some (r1, r2) := H
     have A11 := Aside0.mk A110
     clear A110
     obtain ⟨ji12, hji12⟩ : ∃ j_ : Int, (wrap64 (a2 + 1)) = j_ := ⟨_, rfl⟩
     replace H : (if 0 ≤ (ji12) then (if (ji12) < (a0.size : Int) then ((impl_isAside.f (bt a0 (ji12))).bind fun t356 => (if (t355 == t356) = true then (some (false, false)) else (if a2 < (l1.length : Int) then (if 0 ≤ (wrap64 (a2 + 2)) then (if (wrap64 (a2 + 2)) < (l1.length : Int) then (if (mn ((rd_T54 l1 a2).f1) ((rd_T54 l1 (wrap64 (a2 + 2))).f1)) = 0 then ((impl_isNail.f (mn ((rd_T54 l1 a2).f0) ((rd_T54 l1 (wrap64 (a2 + 2))).f0))).bind fun t361 => (some (true, !t361))) else (some (true, true))) else (none)) else (none)) else (none)))) else (none)) else (none)) = some (r1, r2) := by first | (rw [hji12] at H; exact H) | (simp only [hji12] at H ⊢; exact H)
     (try rw [hji12] at A11)
     have hji12w : (IntKind.i64.wrap (a2 + 1)) = ji12 := (i64_w _).trans hji12
     by_cases c13 : 0 ≤ (ji12)
     ·rw [if_pos c13] at H
      have c13b0 : decide (0 ≤ (ji12)) = true := decide_eq_true c13
      clear c13
      by_cases c14 : (ji12) < (a0.size : Int)
      ·rw [if_pos c14] at H
       have c14b0 : decide ((ji12) < (a0.size : Int)) = true := decide_eq_true c14
       clear c14
       replace H := Option.bind_eq_some_iff.mp H
       obtain ⟨t356, A160, H⟩ := H
       replace H : (if (t355 == t356) = true then (some (false, false)) else (if a2 < (l1.length : Int) then (if 0 ≤ (wrap64 (a2 + 2)) then (if (wrap64 (a2 + 2)) < (l1.length : Int) then (if (mn ((rd_T54 l1 a2).f1) ((rd_T54 l1 (wrap64 (a2 + 2))).f1)) = 0 then ((impl_isNail.f (mn ((rd_T54 l1 a2).f0) ((rd_T54 l1 (wrap64 (a2 + 2))).f0))).bind fun t361 => (some (true, !t361))) else (some (true, true))) else (none)) else (none)) else (none))) = some (r1, r2) := H
       have A16 := Aside0.mk A160
       clear A160
       by_cases c17 : (t355 == t356) = true
       ·rw [if_pos c17] at H
        have c17b0 : (t355 == t356) = true := c17
        (try (have c17b1 : decide (t355 = t356) = true := by simpa using c17))
        (try (have c17b2 : (t355 == t356) = true := by simpa using c17))
        clear c17
        simp only [Option.some.injEq, Prod.mk.injEq] at H
        obtain ⟨rfl, rfl⟩ := H
        go_enter Tryd.func50, Tryd.ntmps50
        try go_wp2
        have n0_ := Aside0.mk (below_drew1 HB.out)
        clear HB
        have HB := n0_
        clear n0_
        have p10 : 0 ≤ (a2 : Int) := of_decide_eq_true (by first | (with_reducible assumption) | assumption)
        have q10 : a2 < (a0.size : Int) := of_decide_eq_true (by first | (with_reducible assumption) | assumption)
        have hx10 := bt_at a0 a2
        replace p10 := eq_true p10
        replace q10 := eq_true q10
        have p15 : 0 ≤ ((ji12) : Int) := of_decide_eq_true (by first | (with_reducible assumption) | assumption)
        have q15 : (ji12) < (a0.size : Int) := of_decide_eq_true (by first | (with_reducible assumption) | assumption)
        have hx15 := bt_at a0 (ji12)
        replace p15 := eq_true p15
        replace q15 := eq_true q15
        refine start_ (n := 21) (S := fun w' => True) (ds := []) #[false, false, false, false, false, false, false, false, false, false, false, false, false, false, false, false, false, false, false, false, false] (by kernel_rfl) rfl rfl trivial (fun hHeld => ?_); refine with_tabW impl_corner.tab1 impl_corner.bits1 (fun HT_ HW_ => ?_)
        generalize w.drew = w18 at HB hHeld ⊢
        refine pure_ (i := 0) (N := some 10) (v := ?_) (a' := ?_) #[true, false, false, false, false, false, false, false, false, false, false, false, false, false, false, false, false, false, false, false, false] rfl rfl (any_of HT_.out (by kernel_rfl)) (fun _ _ _ h => h) (Or.inl ⟨by rfl, ?_⟩) ?_ ?_
        rotate_left
        ·intro w'
         go_simp
         with_reducible rfl
        rotate_left
        ·simp only [Act.put, List.setIfInBounds_toArray, List.set_cons_zero, List.set_cons_succ, i64_w, i32_w]
         rfl
        refine pure_ (i := 1) (N := some 11) (v := ?_) (a' := ?_) #[true, true, false, false, false, false, false, false, false, false, false, false, false, false, false, false, false, false, false, false, false] rfl rfl (any_of HT_.out (by kernel_rfl)) (fun _ _ _ h => h) (Or.inl ⟨by rfl, ?_⟩) ?_ ?_
        rotate_left
        ·intro w'
         go_simp
         with_reducible rfl
        rotate_left
        ·simp only [Act.put, List.setIfInBounds_toArray, List.set_cons_zero, List.set_cons_succ, i64_w, i32_w]
         rfl
        refine pure_ (i := 2) (N := some 12) (v := ?_) (a' := ?_) #[true, true, true, false, false, false, false, false, false, false, false, false, false, false, false, false, false, false, false, false, false] rfl rfl (any_of HT_.out (by kernel_rfl)) (fun _ _ _ h => h) (Or.inl ⟨by rfl, ?_⟩) ?_ ?_
        rotate_left
        ·intro w'
         go_simp
         with_reducible rfl
        rotate_left
        ·simp only [Act.put, List.setIfInBounds_toArray, List.set_cons_zero, List.set_cons_succ, i64_w, i32_w]
         rfl
        refine pure_ (i := 3) (N := some 13) (v := ?_) (a' := ?_) #[true, true, true, true, false, false, false, false, false, false, false, false, false, false, false, false, false, false, false, false, false] rfl rfl (any_of HT_.out (by kernel_rfl)) (fun _ _ _ h => h) (Or.inl ⟨by rfl, ?_⟩) ?_ ?_
        rotate_left
        ·intro w'
         go_simp
         with_reducible rfl
        rotate_left
        ·simp only [Act.put, List.setIfInBounds_toArray, List.set_cons_zero, List.set_cons_succ, i64_w, i32_w]
         rfl
        refine pure_ (i := 4) (N := some 14) (v := ?_) (a' := ?_) #[true, true, true, true, true, false, false, false, false, false, false, false, false, false, false, false, false, false, false, false, false] rfl rfl (any_of HT_.out (by kernel_rfl)) (fun _ _ _ h => h) (Or.inl ⟨by rfl, ?_⟩) ?_ ?_
        rotate_left
        ·intro w'
         go_simp
         with_reducible rfl
        rotate_left
        ·simp only [Act.put, List.setIfInBounds_toArray, List.set_cons_zero, List.set_cons_succ, i64_w, i32_w]
         rfl
        refine pure_ (i := 5) (N := some 15) (v := ?_) (a' := ?_) #[true, true, true, true, true, true, false, false, false, false, false, false, false, false, false, false, false, false, false, false, false] rfl rfl (any_of HT_.out (by kernel_rfl)) (fun _ _ _ h => h) (Or.inl ⟨by rfl, ?_⟩) ?_ ?_
        rotate_left
        ·intro w'
         go_simp
         with_reducible rfl
        rotate_left
        ·simp only [Act.put, List.setIfInBounds_toArray, List.set_cons_zero, List.set_cons_succ, i64_w, i32_w]
         rfl
        refine pure_ (i := 6) (N := some 16) (v := ?_) (a' := ?_) #[true, true, true, true, true, true, true, false, false, false, false, false, false, false, false, false, false, false, false, false, false] rfl rfl (any_of HT_.out (by kernel_rfl)) (fun _ _ _ h => h) (Or.inl ⟨by rfl, ?_⟩) ?_ ?_
        rotate_left
        ·intro w'
         go_simp
         with_reducible rfl
        rotate_left
        ·simp only [Act.put, List.setIfInBounds_toArray, List.set_cons_zero, List.set_cons_succ, i64_w, i32_w]
         rfl
        refine pure_ (i := 7) (N := some 17) (v := ?_) (a' := ?_) #[true, true, true, true, true, true, true, true, false, false, false, false, false, false, false, false, false, false, false, false, false] rfl rfl (any_of HT_.out (by kernel_rfl)) (fun _ _ _ h => h) (Or.inl ⟨by rfl, ?_⟩) ?_ ?_
        rotate_left
        ·intro w'
         go_simp
         with_reducible rfl
        rotate_left
        ·simp only [Act.put, List.setIfInBounds_toArray, List.set_cons_zero, List.set_cons_succ, i64_w, i32_w]
         rfl
        refine pure_ (i := 8) (N := some 18) (v := ?_) (a' := ?_) #[true, true, true, true, true, true, true, true, true, false, false, false, false, false, false, false, false, false, false, false, false] rfl rfl (any_of HT_.out (by kernel_rfl)) (fun _ _ _ h => h) (Or.inl ⟨by rfl, ?_⟩) ?_ ?_
        rotate_left
        ·intro w'
         go_simp
         with_reducible rfl
        rotate_left
        ·simp only [Act.put, List.setIfInBounds_toArray, List.set_cons_zero, List.set_cons_succ, i64_w, i32_w]
         rfl
        refine pure_ (i := 9) (N := some 19) (v := ?_) (a' := ?_) #[true, true, true, true, true, true, true, true, true, true, false, false, false, false, false, false, false, false, false, false, false] rfl rfl (any_of HT_.out (by kernel_rfl)) (fun _ _ _ h => h) (Or.inl ⟨by rfl, ?_⟩) ?_ ?_
        rotate_left
        ·intro w'
         go_simp
         with_reducible rfl
        rotate_left
        ·simp only [Act.put, List.setIfInBounds_toArray, List.set_cons_zero, List.set_cons_succ, i64_w, i32_w]
         rfl
        refine pure_ (i := 10) (N := some 20) (v := ?_) (a' := ?_) #[true, true, true, true, true, true, true, true, true, true, true, false, false, false, false, false, false, false, false, false, false] rfl rfl (any_of HT_.out (by kernel_rfl)) (fun _ _ _ h => h) (Or.inl ⟨by rfl, ?_⟩) ?_ ?_
        rotate_left
        ·intro w'
         go_simp
         with_reducible rfl
        rotate_left
        ·simp only [Act.put, List.setIfInBounds_toArray, List.set_cons_zero, List.set_cons_succ, i64_w, i32_w]
         rfl
        refine pure_ (i := 11) (N := some 21) (v := ?_) (a' := ?_) #[true, true, true, true, true, true, true, true, true, true, true, true, false, false, false, false, false, false, false, false, false] rfl rfl (any_of HT_.out (by kernel_rfl)) (fun _ _ _ h => h) (Or.inl ⟨by rfl, ?_⟩) ?_ ?_
        rotate_left
        ·intro w'
         go_simp
         with_reducible rfl
        rotate_left
        ·simp only [Act.put, List.setIfInBounds_toArray, List.set_cons_zero, List.set_cons_succ, i64_w, i32_w]
         rfl
        refine pure_ (i := 14) (N := some 24) (v := ?_) (a' := ?_) #[true, true, true, true, true, true, true, true, true, true, true, true, false, false, true, false, false, false, false, false, false] rfl rfl (any_of HT_.out (by kernel_rfl)) (fun _ _ _ h => h) (Or.inl ⟨by rfl, ?_⟩) ?_ ?_
        rotate_left
        ·intro w'
         go_simp
         with_reducible rfl
        rotate_left
        ·simp only [Act.put, List.setIfInBounds_toArray, List.set_cons_zero, List.set_cons_succ, i64_w, i32_w]
         rfl
        refine pure_ (i := 15) (N := some 25) (v := ?_) (a' := ?_) #[true, true, true, true, true, true, true, true, true, true, true, true, false, false, true, true, false, false, false, false, false] rfl rfl (any_of HT_.out (by kernel_rfl)) (fun _ _ _ h => h) (Or.inl ⟨by rfl, ?_⟩) ?_ ?_
        rotate_left
        ·intro w'
         go_simp
         with_reducible rfl
        rotate_left
        ·simp only [Act.put, List.setIfInBounds_toArray, List.set_cons_zero, List.set_cons_succ, i64_w, i32_w]
         rfl
        refine pure_ (i := 16) (N := some 26) (v := ?_) (a' := ?_) #[true, true, true, true, true, true, true, true, true, true, true, true, false, false, true, true, true, false, false, false, false] rfl rfl (any_of HT_.out (by kernel_rfl)) (fun _ _ _ h => h) (Or.inl ⟨by rfl, ?_⟩) ?_ ?_
        rotate_left
        ·intro w'
         go_simp
         with_reducible rfl
        rotate_left
        ·simp only [Act.put, List.setIfInBounds_toArray, List.set_cons_zero, List.set_cons_succ, i64_w, i32_w]
         rfl
        refine take_ (i := 12) (N := some 22) (v := ?_) (a' := ?_) #[true, true, true, true, true, true, true, true, true, true, true, true, true, false, true, true, true, false, false, false, false] rfl rfl (take_ofW HT_.out HW_.out (by kernel_rfl)) (fun _ _ _ h => h) (Or.inl ⟨by rfl, ?_⟩) hHeld ?_ ?_
        rotate_left
        ·intro w' _
         go_simp
         with_reducible rfl
        rotate_left
        ·simp only [Act.put, List.setIfInBounds_toArray, List.set_cons_zero, List.set_cons_succ, i64_w, i32_w]
         rfl
        refine take_ (i := 17) (N := some 27) (v := ?_) (a' := ?_) #[true, true, true, true, true, true, true, true, true, true, true, true, true, false, true, true, true, true, false, false, false] rfl rfl (take_ofW HT_.out HW_.out (by kernel_rfl)) (fun _ _ _ h => h) (Or.inl ⟨by rfl, ?_⟩) hHeld ?_ ?_
        rotate_left
        ·intro w' _
         go_simp
         with_reducible rfl
        rotate_left
        ·simp only [Act.put, List.setIfInBounds_toArray, List.set_cons_zero, List.set_cons_succ, i64_w, i32_w]
         rfl
        refine one_ (i := 13) (N := some 23) #[true, true, true, true, true, true, true, true, true, true, true, true, true, true, true, true, true, true, false, false, false] rfl rfl (one_of HT_.out (by kernel_rfl)) (by decide) (fun K hK => ?_)
        refine goes_ Tryd.func62 (by kernel_rfl) rfl #[.int .u8 (bt a0 a2)] (by rfl) rfl rfl (by (try simp only [List.map_toArray, List.map_cons, List.map_nil]); first | done | rfl | (simp only [List.length_drop, List.length_take]; rfl)) ?_
        with_reducible refine (impl_isAside.calls (bt a0 a2) t355 _ A11.out).mono ?_
        rintro e w' ⟨rfl, ⟨nd, rfl⟩⟩
        refine ⟨_, rfl, ?_⟩
        refine hK.out _ _ trivial (fun hHeld => ?_)
        clear hK K
        refine norm_ (a' := ?_) ?_ ?_
        rotate_left
        ·show Act.put _ (some 23) _ = _
         simp only [Act.put, List.setIfInBounds_toArray, List.set_cons_zero, List.set_cons_succ, i64_w, i32_w]
         rfl
        refine one_ (i := 18) (N := some 28) #[true, true, true, true, true, true, true, true, true, true, true, true, true, true, true, true, true, true, true, false, false] rfl rfl (one_of HT_.out (by kernel_rfl)) (by decide) (fun K hK => ?_)
        refine goes_ Tryd.func62 (by kernel_rfl) rfl #[.int .u8 (bt a0 (ji12))] (by rfl) rfl rfl (by (try simp only [List.map_toArray, List.map_cons, List.map_nil]); first | done | (simp only [hji12]; rfl) | rfl | (simp only [List.length_drop, List.length_take]; rfl)) ?_
        with_reducible refine (impl_isAside.calls (bt a0 (ji12)) t356 _ A16.out).mono ?_
        rintro e w' ⟨rfl, ⟨nd, rfl⟩⟩
        refine ⟨_, rfl, ?_⟩
        refine hK.out _ _ trivial (fun hHeld => ?_)
        clear hK K
        refine norm_ (a' := ?_) ?_ ?_
        rotate_left
        ·show Act.put _ (some 28) _ = _
         simp only [Act.put, List.setIfInBounds_toArray, List.set_cons_zero, List.set_cons_succ, i64_w, i32_w]
         rfl
        refine pure_ (i := 19) (N := some 29) (v := ?_) (a' := ?_) #[true, true, true, true, true, true, true, true, true, true, true, true, true, true, true, true, true, true, true, true, false] rfl rfl (any_of HT_.out (by kernel_rfl)) (fun _ _ _ h => h) (Or.inl ⟨by rfl, ?_⟩) ?_ ?_
        rotate_left
        ·intro w'
         go_simp
         with_reducible rfl
        rotate_left
        ·simp only [Act.put, List.setIfInBounds_toArray, List.set_cons_zero, List.set_cons_succ, i64_w, i32_w]
         rfl
        refine pure_ (i := 20) (N := some 30) (v := ?_) (a' := ?_) #[true, true, true, true, true, true, true, true, true, true, true, true, true, true, true, true, true, true, true, true, true] rfl rfl (any_of HT_.out (by kernel_rfl)) (fun _ _ _ h => h) (Or.inl ⟨by rfl, ?_⟩) ?_ ?_
        rotate_left
        ·intro w'
         go_simp
         with_reducible rfl
        rotate_left
        ·simp only [Act.put, List.setIfInBounds_toArray, List.set_cons_zero, List.set_cons_succ, i64_w, i32_w]
         rfl
        refine done_ (done_of HT_.out (by kernel_rfl)) ?_
        try go_wp2
        go_ret2
        exact ⟨by first | rfl | (simp [errW_none, errW_some] <;> rfl) | (simp only [← hji12]; first | rfl | (simp [errW_none, errW_some] <;> rfl)) | (simp [*, errW_none, errW_some] <;> rfl), by repeat (first | (with_reducible first | exact HB.out | apply below_alloc | apply pw_below_drewN | apply below_drew1) | exact HB.out)⟩
       ·rw [if_neg c17] at H
        have c17b0 : (t355 == t356) = false := by simpa using c17
        (try (have c17b1 : decide (t355 = t356) = false := by simpa using c17))
        (try (have c17b2 : (t355 == t356) = false := by simpa using c17))
        (try (have c17b3 : ¬ (t355 = t356) := by simpa using c17))
        clear c17
        by_cases c19 : a2 < (l1.length : Int)
        ·rw [if_pos c19] at H
         have c19b0 : decide (a2 < (l1.length : Int)) = true := decide_eq_true c19
         clear c19
         obtain ⟨ji20, hji20⟩ : ∃ j_ : Int, (wrap64 (a2 + 2)) = j_ := ⟨_, rfl⟩
         replace H : (if 0 ≤ (ji20) then (if (ji20) < (l1.length : Int) then (if (mn ((rd_T54 l1 a2).f1) ((rd_T54 l1 (ji20)).f1)) = 0 then ((impl_isNail.f (mn ((rd_T54 l1 a2).f0) ((rd_T54 l1 (ji20)).f0))).bind fun t361 => (some (true, !t361))) else (some (true, true))) else (none)) else (none)) = some (r1, r2) := by first | (rw [hji20] at H; exact H) | (simp only [hji20] at H ⊢; exact H)
         (try rw [hji20] at A11)
         (try rw [hji20] at A16)
         have hji20w : (IntKind.i64.wrap (a2 + 2)) = ji20 := (i64_w _).trans hji20
         by_cases c21 : 0 ≤ (ji20)
         ·rw [if_pos c21] at H
          have c21b0 : decide (0 ≤ (ji20)) = true := decide_eq_true c21
          clear c21
          by_cases c22 : (ji20) < (l1.length : Int)
          ·rw [if_pos c22] at H
           have c22b0 : decide ((ji20) < (l1.length : Int)) = true := decide_eq_true c22
           clear c22
           obtain ⟨ji23, hji23⟩ : ∃ j_ : Int, (mn ((rd_T54 l1 a2).f1) ((rd_T54 l1 (ji20)).f1)) = j_ := ⟨_, rfl⟩
           replace H : (if (ji23) = 0 then ((impl_isNail.f (mn ((rd_T54 l1 a2).f0) ((rd_T54 l1 (ji20)).f0))).bind fun t361 => (some (true, !t361))) else (some (true, true))) = some (r1, r2) := by first | (rw [hji23] at H; exact H) | (simp only [hji23] at H ⊢; exact H)
           (try rw [hji23] at A11)
           (try rw [hji23] at A16)
           have hji23_ : (if ((rd_T54 l1 (ji20)).f1) < ((rd_T54 l1 a2).f1) then ((rd_T54 l1 (ji20)).f1) else ((rd_T54 l1 a2).f1)) = ji23 := hji23
           by_cases c24 : (ji23) = 0
           ·rw [if_pos c24] at H
            have c24b0 : ((ji23) == 0) = true := beq_iff_eq.mpr c24
            have c24b1 : ((ji23) != 0) = false := bne_eq_false_iff_eq.mpr c24
            clear c24
            obtain ⟨ji25, hji25⟩ : ∃ j_ : Int, (mn ((rd_T54 l1 a2).f0) ((rd_T54 l1 (ji20)).f0)) = j_ := ⟨_, rfl⟩
            replace H : ((impl_isNail.f (ji25)).bind fun t361 => (some (true, !t361))) = some (r1, r2) := by first | (rw [hji25] at H; exact H) | (simp only [hji25] at H ⊢; exact H)
            (try rw [hji25] at A11)
            (try rw [hji25] at A16)
            have hji25_ : (if ((rd_T54 l1 (ji20)).f0) < ((rd_T54 l1 a2).f0) then ((rd_T54 l1 (ji20)).f0) else ((rd_T54 l1 a2).f0)) = ji25 := hji25
            replace H := Option.bind_eq_some_iff.mp H
            obtain ⟨t361, A260, H⟩ := H
            replace H : (some (true, !t361)) = some (r1, r2) := H
            have A26 := Aside0.mk A260
            clear A260
            simp only [Option.some.injEq, Prod.mk.injEq] at H
            obtain ⟨rfl, rfl⟩ := H
            go_enter Tryd.func50, Tryd.ntmps50
            try go_wp2
            have n0_ := Aside0.mk (below_drew1 HB.out)
            clear HB
            have HB := n0_
            clear n0_
            have p10 : 0 ≤ (a2 : Int) := of_decide_eq_true (by first | (with_reducible assumption) | assumption)
            have q10 : a2 < (a0.size : Int) := of_decide_eq_true (by first | (with_reducible assumption) | assumption)
            have hx10 := bt_at a0 a2
            replace p10 := eq_true p10
            replace q10 := eq_true q10
            have p15 : 0 ≤ ((ji12) : Int) := of_decide_eq_true (by first | (with_reducible assumption) | assumption)
            have q15 : (ji12) < (a0.size : Int) := of_decide_eq_true (by first | (with_reducible assumption) | assumption)
            have hx15 := bt_at a0 (ji12)
            replace p15 := eq_true p15
            replace q15 := eq_true q15
            refine start_ (n := 21) (S := fun w' => True) (ds := []) #[false, false, false, false, false, false, false, false, false, false, false, false, false, false, false, false, false, false, false, false, false] (by kernel_rfl) rfl rfl trivial (fun hHeld => ?_); refine with_tabW impl_corner.tab1 impl_corner.bits1 (fun HT_ HW_ => ?_)
            generalize w.drew = w27 at HB hHeld ⊢
            refine pure_ (i := 0) (N := some 10) (v := ?_) (a' := ?_) #[true, false, false, false, false, false, false, false, false, false, false, false, false, false, false, false, false, false, false, false, false] rfl rfl (any_of HT_.out (by kernel_rfl)) (fun _ _ _ h => h) (Or.inl ⟨by rfl, ?_⟩) ?_ ?_
            rotate_left
            ·intro w'
             go_simp
             with_reducible rfl
            rotate_left
            ·simp only [Act.put, List.setIfInBounds_toArray, List.set_cons_zero, List.set_cons_succ, i64_w, i32_w]
             rfl
            refine pure_ (i := 1) (N := some 11) (v := ?_) (a' := ?_) #[true, true, false, false, false, false, false, false, false, false, false, false, false, false, false, false, false, false, false, false, false] rfl rfl (any_of HT_.out (by kernel_rfl)) (fun _ _ _ h => h) (Or.inl ⟨by rfl, ?_⟩) ?_ ?_
            rotate_left
            ·intro w'
             go_simp
             with_reducible rfl
            rotate_left
            ·simp only [Act.put, List.setIfInBounds_toArray, List.set_cons_zero, List.set_cons_succ, i64_w, i32_w]
             rfl
            refine pure_ (i := 2) (N := some 12) (v := ?_) (a' := ?_) #[true, true, true, false, false, false, false, false, false, false, false, false, false, false, false, false, false, false, false, false, false] rfl rfl (any_of HT_.out (by kernel_rfl)) (fun _ _ _ h => h) (Or.inl ⟨by rfl, ?_⟩) ?_ ?_
            rotate_left
            ·intro w'
             go_simp
             with_reducible rfl
            rotate_left
            ·simp only [Act.put, List.setIfInBounds_toArray, List.set_cons_zero, List.set_cons_succ, i64_w, i32_w]
             rfl
            refine pure_ (i := 3) (N := some 13) (v := ?_) (a' := ?_) #[true, true, true, true, false, false, false, false, false, false, false, false, false, false, false, false, false, false, false, false, false] rfl rfl (any_of HT_.out (by kernel_rfl)) (fun _ _ _ h => h) (Or.inl ⟨by rfl, ?_⟩) ?_ ?_
            rotate_left
            ·intro w'
             go_simp
             with_reducible rfl
            rotate_left
            ·simp only [Act.put, List.setIfInBounds_toArray, List.set_cons_zero, List.set_cons_succ, i64_w, i32_w]
             rfl
            refine pure_ (i := 4) (N := some 14) (v := ?_) (a' := ?_) #[true, true, true, true, true, false, false, false, false, false, false, false, false, false, false, false, false, false, false, false, false] rfl rfl (any_of HT_.out (by kernel_rfl)) (fun _ _ _ h => h) (Or.inl ⟨by rfl, ?_⟩) ?_ ?_
            rotate_left
            ·intro w'
             go_simp
             with_reducible rfl
            rotate_left
            ·simp only [Act.put, List.setIfInBounds_toArray, List.set_cons_zero, List.set_cons_succ, i64_w, i32_w]
             rfl
            refine pure_ (i := 5) (N := some 15) (v := ?_) (a' := ?_) #[true, true, true, true, true, true, false, false, false, false, false, false, false, false, false, false, false, false, false, false, false] rfl rfl (any_of HT_.out (by kernel_rfl)) (fun _ _ _ h => h) (Or.inl ⟨by rfl, ?_⟩) ?_ ?_
            rotate_left
            ·intro w'
             go_simp
             with_reducible rfl
            rotate_left
            ·simp only [Act.put, List.setIfInBounds_toArray, List.set_cons_zero, List.set_cons_succ, i64_w, i32_w]
             rfl
            refine pure_ (i := 6) (N := some 16) (v := ?_) (a' := ?_) #[true, true, true, true, true, true, true, false, false, false, false, false, false, false, false, false, false, false, false, false, false] rfl rfl (any_of HT_.out (by kernel_rfl)) (fun _ _ _ h => h) (Or.inl ⟨by rfl, ?_⟩) ?_ ?_
            rotate_left
            ·intro w'
             go_simp
             with_reducible rfl
            rotate_left
            ·simp only [Act.put, List.setIfInBounds_toArray, List.set_cons_zero, List.set_cons_succ, i64_w, i32_w]
             rfl
            refine pure_ (i := 7) (N := some 17) (v := ?_) (a' := ?_) #[true, true, true, true, true, true, true, true, false, false, false, false, false, false, false, false, false, false, false, false, false] rfl rfl (any_of HT_.out (by kernel_rfl)) (fun _ _ _ h => h) (Or.inl ⟨by rfl, ?_⟩) ?_ ?_
            rotate_left
            ·intro w'
             go_simp
             with_reducible rfl
            rotate_left
            ·simp only [Act.put, List.setIfInBounds_toArray, List.set_cons_zero, List.set_cons_succ, i64_w, i32_w]
             rfl
            refine pure_ (i := 8) (N := some 18) (v := ?_) (a' := ?_) #[true, true, true, true, true, true, true, true, true, false, false, false, false, false, false, false, false, false, false, false, false] rfl rfl (any_of HT_.out (by kernel_rfl)) (fun _ _ _ h => h) (Or.inl ⟨by rfl, ?_⟩) ?_ ?_
            rotate_left
            ·intro w'
             go_simp
             with_reducible rfl
            rotate_left
            ·simp only [Act.put, List.setIfInBounds_toArray, List.set_cons_zero, List.set_cons_succ, i64_w, i32_w]
             rfl
            refine pure_ (i := 9) (N := some 19) (v := ?_) (a' := ?_) #[true, true, true, true, true, true, true, true, true, true, false, false, false, false, false, false, false, false, false, false, false] rfl rfl (any_of HT_.out (by kernel_rfl)) (fun _ _ _ h => h) (Or.inl ⟨by rfl, ?_⟩) ?_ ?_
            rotate_left
            ·intro w'
             go_simp
             with_reducible rfl
            rotate_left
            ·simp only [Act.put, List.setIfInBounds_toArray, List.set_cons_zero, List.set_cons_succ, i64_w, i32_w]
             rfl
            refine pure_ (i := 10) (N := some 20) (v := ?_) (a' := ?_) #[true, true, true, true, true, true, true, true, true, true, true, false, false, false, false, false, false, false, false, false, false] rfl rfl (any_of HT_.out (by kernel_rfl)) (fun _ _ _ h => h) (Or.inl ⟨by rfl, ?_⟩) ?_ ?_
            rotate_left
            ·intro w'
             go_simp
             with_reducible rfl
            rotate_left
            ·simp only [Act.put, List.setIfInBounds_toArray, List.set_cons_zero, List.set_cons_succ, i64_w, i32_w]
             rfl
            refine pure_ (i := 11) (N := some 21) (v := ?_) (a' := ?_) #[true, true, true, true, true, true, true, true, true, true, true, true, false, false, false, false, false, false, false, false, false] rfl rfl (any_of HT_.out (by kernel_rfl)) (fun _ _ _ h => h) (Or.inl ⟨by rfl, ?_⟩) ?_ ?_
            rotate_left
            ·intro w'
             go_simp
             with_reducible rfl
            rotate_left
            ·simp only [Act.put, List.setIfInBounds_toArray, List.set_cons_zero, List.set_cons_succ, i64_w, i32_w]
             rfl
            refine pure_ (i := 14) (N := some 24) (v := ?_) (a' := ?_) #[true, true, true, true, true, true, true, true, true, true, true, true, false, false, true, false, false, false, false, false, false] rfl rfl (any_of HT_.out (by kernel_rfl)) (fun _ _ _ h => h) (Or.inl ⟨by rfl, ?_⟩) ?_ ?_
            rotate_left
            ·intro w'
             go_simp
             with_reducible rfl
            rotate_left
            ·simp only [Act.put, List.setIfInBounds_toArray, List.set_cons_zero, List.set_cons_succ, i64_w, i32_w]
             rfl
            refine pure_ (i := 15) (N := some 25) (v := ?_) (a' := ?_) #[true, true, true, true, true, true, true, true, true, true, true, true, false, false, true, true, false, false, false, false, false] rfl rfl (any_of HT_.out (by kernel_rfl)) (fun _ _ _ h => h) (Or.inl ⟨by rfl, ?_⟩) ?_ ?_
            rotate_left
            ·intro w'
             go_simp
             with_reducible rfl
            rotate_left
            ·simp only [Act.put, List.setIfInBounds_toArray, List.set_cons_zero, List.set_cons_succ, i64_w, i32_w]
             rfl
            refine pure_ (i := 16) (N := some 26) (v := ?_) (a' := ?_) #[true, true, true, true, true, true, true, true, true, true, true, true, false, false, true, true, true, false, false, false, false] rfl rfl (any_of HT_.out (by kernel_rfl)) (fun _ _ _ h => h) (Or.inl ⟨by rfl, ?_⟩) ?_ ?_
            rotate_left
            ·intro w'
             go_simp
             with_reducible rfl
            rotate_left
            ·simp only [Act.put, List.setIfInBounds_toArray, List.set_cons_zero, List.set_cons_succ, i64_w, i32_w]
             rfl
            refine take_ (i := 12) (N := some 22) (v := ?_) (a' := ?_) #[true, true, true, true, true, true, true, true, true, true, true, true, true, false, true, true, true, false, false, false, false] rfl rfl (take_ofW HT_.out HW_.out (by kernel_rfl)) (fun _ _ _ h => h) (Or.inl ⟨by rfl, ?_⟩) hHeld ?_ ?_
            rotate_left
            ·intro w' _
             go_simp
             with_reducible rfl
            rotate_left
            ·simp only [Act.put, List.setIfInBounds_toArray, List.set_cons_zero, List.set_cons_succ, i64_w, i32_w]
             rfl
            refine take_ (i := 17) (N := some 27) (v := ?_) (a' := ?_) #[true, true, true, true, true, true, true, true, true, true, true, true, true, false, true, true, true, true, false, false, false] rfl rfl (take_ofW HT_.out HW_.out (by kernel_rfl)) (fun _ _ _ h => h) (Or.inl ⟨by rfl, ?_⟩) hHeld ?_ ?_
            rotate_left
            ·intro w' _
             go_simp
             with_reducible rfl
            rotate_left
            ·simp only [Act.put, List.setIfInBounds_toArray, List.set_cons_zero, List.set_cons_succ, i64_w, i32_w]
             rfl
            refine one_ (i := 13) (N := some 23) #[true, true, true, true, true, true, true, true, true, true, true, true, true, true, true, true, true, true, false, false, false] rfl rfl (one_of HT_.out (by kernel_rfl)) (by decide) (fun K hK => ?_)
            refine goes_ Tryd.func62 (by kernel_rfl) rfl #[.int .u8 (bt a0 a2)] (by rfl) rfl rfl (by (try simp only [List.map_toArray, List.map_cons, List.map_nil]); first | done | rfl | (simp only [List.length_drop, List.length_take]; rfl)) ?_
            with_reducible refine (impl_isAside.calls (bt a0 a2) t355 _ A11.out).mono ?_
            rintro e w' ⟨rfl, ⟨nd, rfl⟩⟩
            refine ⟨_, rfl, ?_⟩
            refine hK.out _ _ trivial (fun hHeld => ?_)
            clear hK K
            refine norm_ (a' := ?_) ?_ ?_
            rotate_left
            ·show Act.put _ (some 23) _ = _
             simp only [Act.put, List.setIfInBounds_toArray, List.set_cons_zero, List.set_cons_succ, i64_w, i32_w]
             rfl
            refine one_ (i := 18) (N := some 28) #[true, true, true, true, true, true, true, true, true, true, true, true, true, true, true, true, true, true, true, false, false] rfl rfl (one_of HT_.out (by kernel_rfl)) (by decide) (fun K hK => ?_)
            refine goes_ Tryd.func62 (by kernel_rfl) rfl #[.int .u8 (bt a0 (ji12))] (by rfl) rfl rfl (by (try simp only [List.map_toArray, List.map_cons, List.map_nil]); first | done | (simp only [hji12]; rfl) | rfl | (simp only [List.length_drop, List.length_take]; rfl)) ?_
            with_reducible refine (impl_isAside.calls (bt a0 (ji12)) t356 _ A16.out).mono ?_
            rintro e w' ⟨rfl, ⟨nd, rfl⟩⟩
            refine ⟨_, rfl, ?_⟩
            refine hK.out _ _ trivial (fun hHeld => ?_)
            clear hK K
            refine norm_ (a' := ?_) ?_ ?_
            rotate_left
            ·show Act.put _ (some 28) _ = _
             simp only [Act.put, List.setIfInBounds_toArray, List.set_cons_zero, List.set_cons_succ, i64_w, i32_w]
             rfl
            refine pure_ (i := 19) (N := some 29) (v := ?_) (a' := ?_) #[true, true, true, true, true, true, true, true, true, true, true, true, true, true, true, true, true, true, true, true, false] rfl rfl (any_of HT_.out (by kernel_rfl)) (fun _ _ _ h => h) (Or.inl ⟨by rfl, ?_⟩) ?_ ?_
            rotate_left
            ·intro w'
             go_simp
             with_reducible rfl
            rotate_left
            ·simp only [Act.put, List.setIfInBounds_toArray, List.set_cons_zero, List.set_cons_succ, i64_w, i32_w]
             rfl
            refine pure_ (i := 20) (N := some 30) (v := ?_) (a' := ?_) #[true, true, true, true, true, true, true, true, true, true, true, true, true, true, true, true, true, true, true, true, true] rfl rfl (any_of HT_.out (by kernel_rfl)) (fun _ _ _ h => h) (Or.inl ⟨by rfl, ?_⟩) ?_ ?_
            rotate_left
            ·intro w'
             go_simp
             with_reducible rfl
            rotate_left
            ·simp only [Act.put, List.setIfInBounds_toArray, List.set_cons_zero, List.set_cons_succ, i64_w, i32_w]
             rfl
            refine done_ (done_of HT_.out (by kernel_rfl)) ?_
            try go_wp2
            (repeat (rw [drewN_self w27]; generalize hq_ : World.drewN w27 _ = w27; have n0_ : Aside0 (Below w.heap.size w w27) := ⟨by rw [← hq_]; exact (by repeat (first | (with_reducible first | exact HB.out | apply below_alloc | apply pw_below_drewN | apply below_drew1) | exact HB.out))⟩; clear HB hq_; have HB := n0_; clear n0_))
            have n0_ := Aside0.mk (below_drew1 HB.out)
            clear HB
            have HB := n0_
            clear n0_
            have p357 : 0 ≤ (a2 : Int) := of_decide_eq_true (by first | (with_reducible assumption) | assumption)
            have q357 : a2 < (l1.length : Int) := of_decide_eq_true (by first | (with_reducible assumption) | assumption)
            obtain ⟨ad357, e357, hx357_0, hx357_1⟩ := at_T54 HR1.out a2 p357 q357
            have hw357_1 := hx357_1
            have hw357_0 := hx357_0
            cases e357
            replace hx357_0 := (HB.out.cell (World.block_lt_of_cell? w _ hx357_0)).trans hx357_0
            replace hx357_1 := (HB.out.cell (World.block_lt_of_cell? w _ hx357_1)).trans hx357_1
            replace p357 := eq_true p357
            replace q357 := eq_true q357
            have p358 : 0 ≤ ((ji20) : Int) := of_decide_eq_true (by first | (with_reducible assumption) | assumption)
            have q358 : (ji20) < (l1.length : Int) := of_decide_eq_true (by first | (with_reducible assumption) | assumption)
            obtain ⟨ad358, e358, hx358_0, hx358_1⟩ := at_T54 HR1.out (ji20) p358 q358
            have hw358_1 := hx358_1
            have hw358_0 := hx358_0
            obtain rfl : ad357 = ad358 := (by injection e358)
            replace hx358_0 := (HB.out.cell (World.block_lt_of_cell? w _ hx358_0)).trans hx358_0
            replace hx358_1 := (HB.out.cell (World.block_lt_of_cell? w _ hx358_1)).trans hx358_1
            replace p358 := eq_true p358
            replace q358 := eq_true q358
            refine start_ (n := 13) (S := fun w' => w'.cell? (ad357.add ((a2).toNat * 2)) = some (.int .i64 ((rd_T54 l1 a2).f0)) ∧ w'.cell? ⟨(ad357.add ((a2).toNat * 2)).block, (ad357.add ((a2).toNat * 2)).off + 1, none⟩ = some (.int .i64 ((rd_T54 l1 a2).f1)) ∧ w'.cell? (ad357.add (((ji20)).toNat * 2)) = some (.int .i64 ((rd_T54 l1 (ji20)).f0)) ∧ w'.cell? ⟨(ad357.add (((ji20)).toNat * 2)).block, (ad357.add (((ji20)).toNat * 2)).off + 1, none⟩ = some (.int .i64 ((rd_T54 l1 (ji20)).f1))) (ds := []) #[false, false, false, false, false, false, false, false, false, false, false, false, false] (by kernel_rfl) rfl rfl ⟨((HB.out.cell (World.block_lt_of_cell? w _ hw357_0)).trans hw357_0), ((HB.out.cell (World.block_lt_of_cell? w _ hw357_1)).trans hw357_1), ((HB.out.cell (World.block_lt_of_cell? w _ hw358_0)).trans hw358_0), ((HB.out.cell (World.block_lt_of_cell? w _ hw358_1)).trans hw358_1)⟩ (fun hHeld => ?_); refine with_tabW impl_corner.tab3 impl_corner.bits3 (fun HT_ HW_ => ?_)
            generalize w27.drew = w28 at HB hx357_0 hx357_1 hx358_0 hx358_1 hHeld ⊢
            refine pure_ (i := 0) (N := some 31) (v := ?_) (a' := ?_) #[true, false, false, false, false, false, false, false, false, false, false, false, false] rfl rfl (any_of HT_.out (by kernel_rfl)) (fun _ _ _ h => h) (Or.inl ⟨by rfl, ?_⟩) ?_ ?_
            rotate_left
            ·intro w'
             go_simp
             with_reducible rfl
            rotate_left
            ·simp only [Act.put, List.setIfInBounds_toArray, List.set_cons_zero, List.set_cons_succ, i64_w, i32_w]
             rfl
            refine pure_ (i := 1) (N := some 32) (v := ?_) (a' := ?_) #[true, true, false, false, false, false, false, false, false, false, false, false, false] rfl rfl (any_of HT_.out (by kernel_rfl)) (fun _ _ _ h => h) (Or.inl ⟨by rfl, ?_⟩) ?_ ?_
            rotate_left
            ·intro w'
             go_simp
             with_reducible rfl
            rotate_left
            ·simp only [Act.put, List.setIfInBounds_toArray, List.set_cons_zero, List.set_cons_succ, i64_w, i32_w]
             rfl
            refine pure_ (i := 2) (N := some 33) (v := ?_) (a' := ?_) #[true, true, true, false, false, false, false, false, false, false, false, false, false] rfl rfl (any_of HT_.out (by kernel_rfl)) (fun _ _ _ h => h) (Or.inl ⟨by rfl, ?_⟩) ?_ ?_
            rotate_left
            ·intro w'
             go_simp
             with_reducible rfl
            rotate_left
            ·simp only [Act.put, List.setIfInBounds_toArray, List.set_cons_zero, List.set_cons_succ, i64_w, i32_w]
             rfl
            refine pure_ (i := 4) (N := some 35) (v := ?_) (a' := ?_) #[true, true, true, false, true, false, false, false, false, false, false, false, false] rfl rfl (any_of HT_.out (by kernel_rfl)) (fun _ _ _ h => h) (Or.inl ⟨by rfl, ?_⟩) ?_ ?_
            rotate_left
            ·intro w'
             go_simp
             with_reducible rfl
            rotate_left
            ·simp only [Act.put, List.setIfInBounds_toArray, List.set_cons_zero, List.set_cons_succ, i64_w, i32_w]
             rfl
            refine pure_ (i := 5) (N := some 36) (v := ?_) (a' := ?_) #[true, true, true, false, true, true, false, false, false, false, false, false, false] rfl rfl (any_of HT_.out (by kernel_rfl)) (fun _ _ _ h => h) (Or.inl ⟨by rfl, ?_⟩) ?_ ?_
            rotate_left
            ·intro w'
             go_simp
             with_reducible rfl
            rotate_left
            ·simp only [Act.put, List.setIfInBounds_toArray, List.set_cons_zero, List.set_cons_succ, i64_w, i32_w]
             rfl
            refine pure_ (i := 6) (N := some 37) (v := ?_) (a' := ?_) #[true, true, true, false, true, true, true, false, false, false, false, false, false] rfl rfl (any_of HT_.out (by kernel_rfl)) (fun _ _ _ h => h) (Or.inl ⟨by rfl, ?_⟩) ?_ ?_
            rotate_left
            ·intro w'
             go_simp
             with_reducible rfl
            rotate_left
            ·simp only [Act.put, List.setIfInBounds_toArray, List.set_cons_zero, List.set_cons_succ, i64_w, i32_w]
             rfl
            refine pure_ (i := 7) (N := some 38) (v := ?_) (a' := ?_) #[true, true, true, false, true, true, true, true, false, false, false, false, false] rfl rfl (any_of HT_.out (by kernel_rfl)) (fun _ _ _ h => h) (Or.inl ⟨by rfl, ?_⟩) ?_ ?_
            rotate_left
            ·intro w'
             go_simp
             with_reducible rfl
            rotate_left
            ·simp only [Act.put, List.setIfInBounds_toArray, List.set_cons_zero, List.set_cons_succ, i64_w, i32_w]
             rfl
            refine take_ (i := 3) (N := some 34) (v := ?_) (a' := ?_) #[true, true, true, true, true, true, true, true, false, false, false, false, false] rfl rfl (take_ofW HT_.out HW_.out (by kernel_rfl)) (fun _ _ _ h => h) (Or.inl ⟨by rfl, ?_⟩) hHeld ?_ ?_
            rotate_left
            ·rintro w' ⟨s0, s1, s2, s3⟩
             go_simp
             with_reducible rfl
            rotate_left
            ·simp only [Act.put, List.setIfInBounds_toArray, List.set_cons_zero, List.set_cons_succ, i64_w, i32_w]
             rfl
            refine take_ (i := 8) (N := some 39) (v := ?_) (a' := ?_) #[true, true, true, true, true, true, true, true, true, false, false, false, false] rfl rfl (take_ofW HT_.out HW_.out (by kernel_rfl)) (fun _ _ _ h => h) (Or.inl ⟨by rfl, ?_⟩) hHeld ?_ ?_
            rotate_left
            ·rintro w' ⟨s0, s1, s2, s3⟩
             go_simp
             with_reducible rfl
            rotate_left
            ·simp only [Act.put, List.setIfInBounds_toArray, List.set_cons_zero, List.set_cons_succ, i64_w, i32_w]
             rfl
            refine join_ (σ := Nat × Nat) 2 #[true, true, true, true, true, true, true, true, true, true, true, false, false] (fun s_ => [(8, .pointer (some ⟨s_.1, 0, none⟩)), (9, .pointer (some ⟨s_.2, 0, none⟩))]) (fun s_ w' => (w'.cell? (ad357.add ((a2).toNat * 2)) = some (.int .i64 ((rd_T54 l1 a2).f0)) ∧ w'.cell? ⟨(ad357.add ((a2).toNat * 2)).block, (ad357.add ((a2).toNat * 2)).off + 1, none⟩ = some (.int .i64 ((rd_T54 l1 a2).f1)) ∧ w'.cell? (ad357.add (((ji20)).toNat * 2)) = some (.int .i64 ((rd_T54 l1 (ji20)).f0)) ∧ w'.cell? ⟨(ad357.add (((ji20)).toNat * 2)).block, (ad357.add (((ji20)).toNat * 2)).off + 1, none⟩ = some (.int .i64 ((rd_T54 l1 (ji20)).f1))) ∧ (w'.heap[s_.1]? = some (.cells #[.int .i64 0, .int .i64 0] 54 (0, 0))) ∧ (w'.heap[s_.2]? = some (.cells #[.int .i64 0, .int .i64 0] 54 (0, 0))) ∧ (w.heap.size ≤ s_.1) ∧ (w.heap.size ≤ s_.1) ∧ (s_.2 ≠ s_.1) ∧ (s_.1 ≠ s_.2) ∧ (w.heap.size ≤ s_.2) ∧ (w.heap.size ≤ s_.2) ∧ (Below w.heap.size w w')) ?_ ?_
            rotate_left
            ·intro hCont
             refine two_ (i := 9) (j := 10) (Ni := some 8) (Nj := some 9) #[true, true, true, true, true, true, true, true, true, true, false, false, false] #[true, true, true, true, true, true, true, true, true, false, true, false, false] rfl rfl rfl rfl (two_of HT_.out (by kernel_rfl)) (by decide) (by decide) (fun K hK => ?_) (fun K hK => ?_)
             ·skip
              refine box_step ?hg (N := 8) ?hd (cs := #[.int .i64 0, .int .i64 0]) (t := 54) ?hr ?_; (case hd => rfl); (case hg => rfl); (case hr => first | (go_simp; done) | (go_simp; rfl))
              intro gb359 hg w29 hbox hb
              have n0_ := Aside0.mk (below_step (by repeat (first | (with_reducible first | exact HB.out | apply below_alloc | apply pw_below_drewN | apply below_drew1) | exact HB.out)) hb)
              have n1_ := Aside0.mk (hbox)
              have n2_ := Aside0.mk ((by rw [hg]; exact (below_size (by repeat (first | (with_reducible first | exact HB.out | apply below_alloc | apply pw_below_drewN | apply below_drew1) | exact HB.out))) : w.heap.size ≤ gb359))
              have n3_ := Aside0.mk ((by rw [hg]; exact (below_size (by repeat (first | (with_reducible first | exact HB.out | apply below_alloc | apply pw_below_drewN | apply below_drew1) | exact HB.out))) : w.heap.size ≤ gb359))
              clear HB
              have HB := n0_
              have BK359 := n1_
              have GW359 := n2_
              have GE359 := n3_
              clear n0_ n1_ n2_ n3_
              clear hb hbox hg
              refine hK.out _ _ ⟨((HB.out.cell (World.block_lt_of_cell? w _ hw357_0)).trans hw357_0), ((HB.out.cell (World.block_lt_of_cell? w _ hw357_1)).trans hw357_1), ((HB.out.cell (World.block_lt_of_cell? w _ hw358_0)).trans hw358_0), ((HB.out.cell (World.block_lt_of_cell? w _ hw358_1)).trans hw358_1)⟩ (fun hHeld => ?_)
              clear hK K
              refine norm_ (a' := ?_) ?_ ?_
              rotate_left
              ·show Act.put _ (some 8) _ = _
               simp only [Act.put, List.setIfInBounds_toArray, List.set_cons_zero, List.set_cons_succ, i64_w, i32_w]
               rfl
              refine one_ (i := 10) (N := some 9) #[true, true, true, true, true, true, true, true, true, true, true, false, false] rfl rfl (one_of HT_.out (by kernel_rfl)) (by decide) (fun K hK => ?_)
              refine box_step ?hg (N := 9) ?hd (cs := #[.int .i64 0, .int .i64 0]) (t := 54) ?hr ?_; (case hd => rfl); (case hg => rfl); (case hr => first | (go_simp; done) | (go_simp; rfl))
              intro gb360 hg w30 hbox hb
              have n0_ := Aside0.mk (blk_below (g := gb359) (o := .cells #[.int .i64 0, .int .i64 0] 54 (0, 0)) (by (with_reducible repeat (first | refine blk_drewN ?_ _ | refine blk_drew ?_ | refine blk_alloc ?_ _)); exact BK359.out) hb)
              have n1_ := Aside0.mk (below_step (by repeat (first | (with_reducible first | exact HB.out | apply below_alloc | apply pw_below_drewN | apply below_drew1 | refine below_set ?_ GE359.out) | exact HB.out)) hb)
              have n2_ := Aside0.mk (hbox)
              have n3_ := Aside0.mk ((by rw [hg]; exact (below_size (by repeat (first | (with_reducible first | exact HB.out | apply below_alloc | apply pw_below_drewN | apply below_drew1 | refine below_set ?_ GE359.out) | exact HB.out))) : w.heap.size ≤ gb360))
              have n4_ := Aside0.mk ((by rw [hg]; exact (below_size (by repeat (first | (with_reducible first | exact HB.out | apply below_alloc | apply pw_below_drewN | apply below_drew1 | refine below_set ?_ GE359.out) | exact HB.out))) : w.heap.size ≤ gb360))
              have n5_ := Aside0.mk ((by rw [hg]; exact Nat.ne_of_lt (blk_lt (g := gb359) (o := .cells #[.int .i64 0, .int .i64 0] 54 (0, 0)) (by (with_reducible repeat (first | refine blk_drewN ?_ _ | refine blk_drew ?_ | refine blk_alloc ?_ _)); exact BK359.out)) : gb359 ≠ gb360))
              have n6_ := Aside0.mk ((by rw [hg]; exact Nat.ne_of_gt (blk_lt (g := gb359) (o := .cells #[.int .i64 0, .int .i64 0] 54 (0, 0)) (by (with_reducible repeat (first | refine blk_drewN ?_ _ | refine blk_drew ?_ | refine blk_alloc ?_ _)); exact BK359.out)) : gb360 ≠ gb359))
              clear BK359
              clear HB
              have BK359 := n0_
              have HB := n1_
              have BK360 := n2_
              have GW360 := n3_
              have GE360 := n4_
              have NB359_360 := n5_
              have NB360_359 := n6_
              clear n0_ n1_ n2_ n3_ n4_ n5_ n6_
              clear hb hbox hg
              refine hK.out _ _ ⟨((HB.out.cell (World.block_lt_of_cell? w _ hw357_0)).trans hw357_0), ((HB.out.cell (World.block_lt_of_cell? w _ hw357_1)).trans hw357_1), ((HB.out.cell (World.block_lt_of_cell? w _ hw358_0)).trans hw358_0), ((HB.out.cell (World.block_lt_of_cell? w _ hw358_1)).trans hw358_1)⟩ (fun hHeld => ?_)
              clear hK K
              refine norm_ (a' := ?_) ?_ ?_
              rotate_left
              ·show Act.put _ (some 9) _ = _
               simp only [Act.put, List.setIfInBounds_toArray, List.set_cons_zero, List.set_cons_succ, i64_w, i32_w]
               rfl
              exact norm_ (by simp only [putAll, Act.put, List.setIfInBounds_toArray, List.set_cons_zero, List.set_cons_succ]) (hCont (gb359, gb360) _ ⟨hHeld, (by (with_reducible repeat (first | refine blk_drewN ?_ _ | refine blk_drew ?_ | refine blk_alloc ?_ _)); exact BK359.out), (by (with_reducible repeat (first | refine blk_drewN ?_ _ | refine blk_drew ?_ | refine blk_alloc ?_ _)); exact BK360.out), GW359.out, GE359.out, NB360_359.out, NB359_360.out, GW360.out, GE360.out, (by repeat (first | (with_reducible first | exact HB.out | apply below_alloc | apply pw_below_drewN | apply below_drew1 | refine below_set ?_ GE359.out | refine below_set ?_ GE360.out) | exact HB.out))⟩)
             ·skip
              refine box_step ?hg (N := 9) ?hd (cs := #[.int .i64 0, .int .i64 0]) (t := 54) ?hr ?_; (case hd => rfl); (case hg => rfl); (case hr => first | (go_simp; done) | (go_simp; rfl))
              intro gb360 hg w29 hbox hb
              have n0_ := Aside0.mk (below_step (by repeat (first | (with_reducible first | exact HB.out | apply below_alloc | apply pw_below_drewN | apply below_drew1) | exact HB.out)) hb)
              have n1_ := Aside0.mk (hbox)
              have n2_ := Aside0.mk ((by rw [hg]; exact (below_size (by repeat (first | (with_reducible first | exact HB.out | apply below_alloc | apply pw_below_drewN | apply below_drew1) | exact HB.out))) : w.heap.size ≤ gb360))
              have n3_ := Aside0.mk ((by rw [hg]; exact (below_size (by repeat (first | (with_reducible first | exact HB.out | apply below_alloc | apply pw_below_drewN | apply below_drew1) | exact HB.out))) : w.heap.size ≤ gb360))
              clear HB
              have HB := n0_
              have BK360 := n1_
              have GW360 := n2_
              have GE360 := n3_
              clear n0_ n1_ n2_ n3_
              clear hb hbox hg
              refine hK.out _ _ ⟨((HB.out.cell (World.block_lt_of_cell? w _ hw357_0)).trans hw357_0), ((HB.out.cell (World.block_lt_of_cell? w _ hw357_1)).trans hw357_1), ((HB.out.cell (World.block_lt_of_cell? w _ hw358_0)).trans hw358_0), ((HB.out.cell (World.block_lt_of_cell? w _ hw358_1)).trans hw358_1)⟩ (fun hHeld => ?_)
              clear hK K
              refine norm_ (a' := ?_) ?_ ?_
              rotate_left
              ·show Act.put _ (some 9) _ = _
               simp only [Act.put, List.setIfInBounds_toArray, List.set_cons_zero, List.set_cons_succ, i64_w, i32_w]
               rfl
              refine one_ (i := 9) (N := some 8) #[true, true, true, true, true, true, true, true, true, true, true, false, false] rfl rfl (one_of HT_.out (by kernel_rfl)) (by decide) (fun K hK => ?_)
              refine box_step ?hg (N := 8) ?hd (cs := #[.int .i64 0, .int .i64 0]) (t := 54) ?hr ?_; (case hd => rfl); (case hg => rfl); (case hr => first | (go_simp; done) | (go_simp; rfl))
              intro gb359 hg w30 hbox hb
              have n0_ := Aside0.mk (blk_below (g := gb360) (o := .cells #[.int .i64 0, .int .i64 0] 54 (0, 0)) (by (with_reducible repeat (first | refine blk_drewN ?_ _ | refine blk_drew ?_ | refine blk_alloc ?_ _)); exact BK360.out) hb)
              have n1_ := Aside0.mk (below_step (by repeat (first | (with_reducible first | exact HB.out | apply below_alloc | apply pw_below_drewN | apply below_drew1 | refine below_set ?_ GE360.out) | exact HB.out)) hb)
              have n2_ := Aside0.mk (hbox)
              have n3_ := Aside0.mk ((by rw [hg]; exact (below_size (by repeat (first | (with_reducible first | exact HB.out | apply below_alloc | apply pw_below_drewN | apply below_drew1 | refine below_set ?_ GE360.out) | exact HB.out))) : w.heap.size ≤ gb359))
              have n4_ := Aside0.mk ((by rw [hg]; exact (below_size (by repeat (first | (with_reducible first | exact HB.out | apply below_alloc | apply pw_below_drewN | apply below_drew1 | refine below_set ?_ GE360.out) | exact HB.out))) : w.heap.size ≤ gb359))
              have n5_ := Aside0.mk ((by rw [hg]; exact Nat.ne_of_lt (blk_lt (g := gb360) (o := .cells #[.int .i64 0, .int .i64 0] 54 (0, 0)) (by (with_reducible repeat (first | refine blk_drewN ?_ _ | refine blk_drew ?_ | refine blk_alloc ?_ _)); exact BK360.out)) : gb360 ≠ gb359))
              have n6_ := Aside0.mk ((by rw [hg]; exact Nat.ne_of_gt (blk_lt (g := gb360) (o := .cells #[.int .i64 0, .int .i64 0] 54 (0, 0)) (by (with_reducible repeat (first | refine blk_drewN ?_ _ | refine blk_drew ?_ | refine blk_alloc ?_ _)); exact BK360.out)) : gb359 ≠ gb360))
              clear BK360
              clear HB
              have BK360 := n0_
              have HB := n1_
              have BK359 := n2_
              have GW359 := n3_
              have GE359 := n4_
              have NB360_359 := n5_
              have NB359_360 := n6_
              clear n0_ n1_ n2_ n3_ n4_ n5_ n6_
              clear hb hbox hg
              refine hK.out _ _ ⟨((HB.out.cell (World.block_lt_of_cell? w _ hw357_0)).trans hw357_0), ((HB.out.cell (World.block_lt_of_cell? w _ hw357_1)).trans hw357_1), ((HB.out.cell (World.block_lt_of_cell? w _ hw358_0)).trans hw358_0), ((HB.out.cell (World.block_lt_of_cell? w _ hw358_1)).trans hw358_1)⟩ (fun hHeld => ?_)
              clear hK K
              refine norm_ (a' := ?_) ?_ ?_
              rotate_left
              ·show Act.put _ (some 8) _ = _
               simp only [Act.put, List.setIfInBounds_toArray, List.set_cons_zero, List.set_cons_succ, i64_w, i32_w]
               rfl
              exact norm_ (by simp only [putAll, Act.put, List.setIfInBounds_toArray, List.set_cons_zero, List.set_cons_succ]) (hCont (gb359, gb360) _ ⟨hHeld, (by (with_reducible repeat (first | refine blk_drewN ?_ _ | refine blk_drew ?_ | refine blk_alloc ?_ _)); exact BK359.out), (by (with_reducible repeat (first | refine blk_drewN ?_ _ | refine blk_drew ?_ | refine blk_alloc ?_ _)); exact BK360.out), GW359.out, GE359.out, NB360_359.out, NB359_360.out, GW360.out, GE360.out, (by repeat (first | (with_reducible first | exact HB.out | apply below_alloc | apply pw_below_drewN | apply below_drew1 | refine below_set ?_ GE360.out | refine below_set ?_ GE359.out) | exact HB.out))⟩)
            rintro ⟨gb359, gb360⟩ w31 ⟨hS_, h0_, h1_, h2_, h3_, h4_, h5_, h6_, h7_, h8_⟩
            have n0_ : Aside0 (w31.heap[gb359]? = some (.cells #[.int .i64 0, .int .i64 0] 54 (0, 0))) := ⟨h0_⟩
            have n1_ : Aside0 (w31.heap[gb360]? = some (.cells #[.int .i64 0, .int .i64 0] 54 (0, 0))) := ⟨h1_⟩
            have n2_ : Aside0 (w.heap.size ≤ gb359) := ⟨h2_⟩
            have n3_ : Aside0 (w.heap.size ≤ gb359) := ⟨h3_⟩
            have n4_ : Aside0 (gb360 ≠ gb359) := ⟨h4_⟩
            have n5_ : Aside0 (gb359 ≠ gb360) := ⟨h5_⟩
            have n6_ : Aside0 (w.heap.size ≤ gb360) := ⟨h6_⟩
            have n7_ : Aside0 (w.heap.size ≤ gb360) := ⟨h7_⟩
            have n8_ : Aside0 (Below w.heap.size w w31) := ⟨h8_⟩
            clear HB
            clear h0_ h1_ h2_ h3_ h4_ h5_ h6_ h7_ h8_
            have BK359 := n0_
            have BK360 := n1_
            have GW359 := n2_
            have GE359 := n3_
            have NB360_359 := n4_
            have NB359_360 := n5_
            have GW360 := n6_
            have GE360 := n7_
            have HB := n8_
            clear n0_ n1_ n2_ n3_ n4_ n5_ n6_ n7_ n8_
            have hHeld : w31.cell? (ad357.add ((a2).toNat * 2)) = some (.int .i64 ((rd_T54 l1 a2).f0)) ∧ w31.cell? ⟨(ad357.add ((a2).toNat * 2)).block, (ad357.add ((a2).toNat * 2)).off + 1, none⟩ = some (.int .i64 ((rd_T54 l1 a2).f1)) ∧ w31.cell? (ad357.add (((ji20)).toNat * 2)) = some (.int .i64 ((rd_T54 l1 (ji20)).f0)) ∧ w31.cell? ⟨(ad357.add (((ji20)).toNat * 2)).block, (ad357.add (((ji20)).toNat * 2)).off + 1, none⟩ = some (.int .i64 ((rd_T54 l1 (ji20)).f1)) := hS_
            refine norm_ (a' := ?_) ?_ ?_
            rotate_left
            ·simp only [putAll, Act.put, List.setIfInBounds_toArray, List.set_cons_zero, List.set_cons_succ]
             rfl
            refine one_ (i := 11) (N := none) #[true, true, true, true, true, true, true, true, true, true, true, true, false] rfl rfl (one_of HT_.out (by kernel_rfl)) (by decide) (fun K hK => ?_)
            have hs32 : w31.cell? ⟨gb359, 0, none⟩ = some (.int .i64 0) := (blk_cell BK359.out 0).trans rfl
            have hfs32 := blk_frozen BK359.out 0
            have hns32_1 := NB360_359.out
            have hms32_1 := NB359_360.out
            have hs33 : w31.cell? ⟨gb359, 1, none⟩ = some (.int .i64 0) := (blk_cell BK359.out 1).trans rfl
            have hfs33 := blk_frozen BK359.out 1
            have hns33_1 := NB360_359.out
            have hms33_1 := NB359_360.out
            refine skip_ (w1 := ?_) (by rfl) rfl ?_ ?_
            rotate_left
            ·go_simp
             rfl
            refine hK.out _ _ ⟨((cell_far (p := ⟨gb359, _, none⟩) (by first | exact Nat.ne_of_lt (Nat.lt_of_lt_of_le (by have := World.block_lt_of_cell? _ _ hw357_0; first | rwa [add_block] at this | exact this) GW359.out) | (rw [add_block]; exact Nat.ne_of_lt (Nat.lt_of_lt_of_le (by have := World.block_lt_of_cell? _ _ hw357_0; first | rwa [add_block] at this | exact this) GW359.out)) | (show (Addr.add _ _).block ≠ _; rw [add_block]; exact Nat.ne_of_lt (Nat.lt_of_lt_of_le (by have := World.block_lt_of_cell? _ _ hw357_0; first | rwa [add_block] at this | exact this) GW359.out)) | (dsimp only; exact Nat.ne_of_lt (Nat.lt_of_lt_of_le (by have := World.block_lt_of_cell? _ _ hw357_0; first | rwa [add_block] at this | exact this) GW359.out))) _).trans (((cell_far (p := ⟨gb359, _, none⟩) (by first | exact Nat.ne_of_lt (Nat.lt_of_lt_of_le (by have := World.block_lt_of_cell? _ _ hw357_0; first | rwa [add_block] at this | exact this) GW359.out) | (rw [add_block]; exact Nat.ne_of_lt (Nat.lt_of_lt_of_le (by have := World.block_lt_of_cell? _ _ hw357_0; first | rwa [add_block] at this | exact this) GW359.out)) | (show (Addr.add _ _).block ≠ _; rw [add_block]; exact Nat.ne_of_lt (Nat.lt_of_lt_of_le (by have := World.block_lt_of_cell? _ _ hw357_0; first | rwa [add_block] at this | exact this) GW359.out)) | (dsimp only; exact Nat.ne_of_lt (Nat.lt_of_lt_of_le (by have := World.block_lt_of_cell? _ _ hw357_0; first | rwa [add_block] at this | exact this) GW359.out))) _).trans (hHeld.1)))), ((cell_far (p := ⟨gb359, _, none⟩) (by first | exact Nat.ne_of_lt (Nat.lt_of_lt_of_le (by have := World.block_lt_of_cell? _ _ hw357_1; first | rwa [add_block] at this | exact this) GW359.out) | (rw [add_block]; exact Nat.ne_of_lt (Nat.lt_of_lt_of_le (by have := World.block_lt_of_cell? _ _ hw357_1; first | rwa [add_block] at this | exact this) GW359.out)) | (show (Addr.add _ _).block ≠ _; rw [add_block]; exact Nat.ne_of_lt (Nat.lt_of_lt_of_le (by have := World.block_lt_of_cell? _ _ hw357_1; first | rwa [add_block] at this | exact this) GW359.out)) | (dsimp only; exact Nat.ne_of_lt (Nat.lt_of_lt_of_le (by have := World.block_lt_of_cell? _ _ hw357_1; first | rwa [add_block] at this | exact this) GW359.out))) _).trans (((cell_far (p := ⟨gb359, _, none⟩) (by first | exact Nat.ne_of_lt (Nat.lt_of_lt_of_le (by have := World.block_lt_of_cell? _ _ hw357_1; first | rwa [add_block] at this | exact this) GW359.out) | (rw [add_block]; exact Nat.ne_of_lt (Nat.lt_of_lt_of_le (by have := World.block_lt_of_cell? _ _ hw357_1; first | rwa [add_block] at this | exact this) GW359.out)) | (show (Addr.add _ _).block ≠ _; rw [add_block]; exact Nat.ne_of_lt (Nat.lt_of_lt_of_le (by have := World.block_lt_of_cell? _ _ hw357_1; first | rwa [add_block] at this | exact this) GW359.out)) | (dsimp only; exact Nat.ne_of_lt (Nat.lt_of_lt_of_le (by have := World.block_lt_of_cell? _ _ hw357_1; first | rwa [add_block] at this | exact this) GW359.out))) _).trans (hHeld.2.1)))), ((cell_far (p := ⟨gb359, _, none⟩) (by first | exact Nat.ne_of_lt (Nat.lt_of_lt_of_le (by have := World.block_lt_of_cell? _ _ hw358_0; first | rwa [add_block] at this | exact this) GW359.out) | (rw [add_block]; exact Nat.ne_of_lt (Nat.lt_of_lt_of_le (by have := World.block_lt_of_cell? _ _ hw358_0; first | rwa [add_block] at this | exact this) GW359.out)) | (show (Addr.add _ _).block ≠ _; rw [add_block]; exact Nat.ne_of_lt (Nat.lt_of_lt_of_le (by have := World.block_lt_of_cell? _ _ hw358_0; first | rwa [add_block] at this | exact this) GW359.out)) | (dsimp only; exact Nat.ne_of_lt (Nat.lt_of_lt_of_le (by have := World.block_lt_of_cell? _ _ hw358_0; first | rwa [add_block] at this | exact this) GW359.out))) _).trans (((cell_far (p := ⟨gb359, _, none⟩) (by first | exact Nat.ne_of_lt (Nat.lt_of_lt_of_le (by have := World.block_lt_of_cell? _ _ hw358_0; first | rwa [add_block] at this | exact this) GW359.out) | (rw [add_block]; exact Nat.ne_of_lt (Nat.lt_of_lt_of_le (by have := World.block_lt_of_cell? _ _ hw358_0; first | rwa [add_block] at this | exact this) GW359.out)) | (show (Addr.add _ _).block ≠ _; rw [add_block]; exact Nat.ne_of_lt (Nat.lt_of_lt_of_le (by have := World.block_lt_of_cell? _ _ hw358_0; first | rwa [add_block] at this | exact this) GW359.out)) | (dsimp only; exact Nat.ne_of_lt (Nat.lt_of_lt_of_le (by have := World.block_lt_of_cell? _ _ hw358_0; first | rwa [add_block] at this | exact this) GW359.out))) _).trans (hHeld.2.2.1)))), ((cell_far (p := ⟨gb359, _, none⟩) (by first | exact Nat.ne_of_lt (Nat.lt_of_lt_of_le (by have := World.block_lt_of_cell? _ _ hw358_1; first | rwa [add_block] at this | exact this) GW359.out) | (rw [add_block]; exact Nat.ne_of_lt (Nat.lt_of_lt_of_le (by have := World.block_lt_of_cell? _ _ hw358_1; first | rwa [add_block] at this | exact this) GW359.out)) | (show (Addr.add _ _).block ≠ _; rw [add_block]; exact Nat.ne_of_lt (Nat.lt_of_lt_of_le (by have := World.block_lt_of_cell? _ _ hw358_1; first | rwa [add_block] at this | exact this) GW359.out)) | (dsimp only; exact Nat.ne_of_lt (Nat.lt_of_lt_of_le (by have := World.block_lt_of_cell? _ _ hw358_1; first | rwa [add_block] at this | exact this) GW359.out))) _).trans (((cell_far (p := ⟨gb359, _, none⟩) (by first | exact Nat.ne_of_lt (Nat.lt_of_lt_of_le (by have := World.block_lt_of_cell? _ _ hw358_1; first | rwa [add_block] at this | exact this) GW359.out) | (rw [add_block]; exact Nat.ne_of_lt (Nat.lt_of_lt_of_le (by have := World.block_lt_of_cell? _ _ hw358_1; first | rwa [add_block] at this | exact this) GW359.out)) | (show (Addr.add _ _).block ≠ _; rw [add_block]; exact Nat.ne_of_lt (Nat.lt_of_lt_of_le (by have := World.block_lt_of_cell? _ _ hw358_1; first | rwa [add_block] at this | exact this) GW359.out)) | (dsimp only; exact Nat.ne_of_lt (Nat.lt_of_lt_of_le (by have := World.block_lt_of_cell? _ _ hw358_1; first | rwa [add_block] at this | exact this) GW359.out))) _).trans (hHeld.2.2.2))))⟩ (fun hHeld => ?_)
            clear hK K
            refine one_ (i := 12) (N := none) #[true, true, true, true, true, true, true, true, true, true, true, true, true] rfl rfl (one_of HT_.out (by kernel_rfl)) (by decide) (fun K hK => ?_)
            have hs34 : w31.cell? ⟨gb360, 0, none⟩ = some (.int .i64 0) := (blk_cell BK360.out 0).trans rfl
            have hfs34 := blk_frozen BK360.out 0
            have hns34_0 := NB359_360.out
            have hms34_0 := NB360_359.out
            have hs35 : w31.cell? ⟨gb360, 1, none⟩ = some (.int .i64 0) := (blk_cell BK360.out 1).trans rfl
            have hfs35 := blk_frozen BK360.out 1
            have hns35_0 := NB359_360.out
            have hms35_0 := NB360_359.out
            refine skip_ (w1 := ?_) (by rfl) rfl ?_ ?_
            rotate_left
            ·go_simp
             rfl
            refine hK.out _ _ ⟨((cell_far (p := ⟨gb360, _, none⟩) (by first | exact Nat.ne_of_lt (Nat.lt_of_lt_of_le (by have := World.block_lt_of_cell? _ _ hw357_0; first | rwa [add_block] at this | exact this) GW360.out) | (rw [add_block]; exact Nat.ne_of_lt (Nat.lt_of_lt_of_le (by have := World.block_lt_of_cell? _ _ hw357_0; first | rwa [add_block] at this | exact this) GW360.out)) | (show (Addr.add _ _).block ≠ _; rw [add_block]; exact Nat.ne_of_lt (Nat.lt_of_lt_of_le (by have := World.block_lt_of_cell? _ _ hw357_0; first | rwa [add_block] at this | exact this) GW360.out)) | (dsimp only; exact Nat.ne_of_lt (Nat.lt_of_lt_of_le (by have := World.block_lt_of_cell? _ _ hw357_0; first | rwa [add_block] at this | exact this) GW360.out))) _).trans (((cell_far (p := ⟨gb360, _, none⟩) (by first | exact Nat.ne_of_lt (Nat.lt_of_lt_of_le (by have := World.block_lt_of_cell? _ _ hw357_0; first | rwa [add_block] at this | exact this) GW360.out) | (rw [add_block]; exact Nat.ne_of_lt (Nat.lt_of_lt_of_le (by have := World.block_lt_of_cell? _ _ hw357_0; first | rwa [add_block] at this | exact this) GW360.out)) | (show (Addr.add _ _).block ≠ _; rw [add_block]; exact Nat.ne_of_lt (Nat.lt_of_lt_of_le (by have := World.block_lt_of_cell? _ _ hw357_0; first | rwa [add_block] at this | exact this) GW360.out)) | (dsimp only; exact Nat.ne_of_lt (Nat.lt_of_lt_of_le (by have := World.block_lt_of_cell? _ _ hw357_0; first | rwa [add_block] at this | exact this) GW360.out))) _).trans (hHeld.1)))), ((cell_far (p := ⟨gb360, _, none⟩) (by first | exact Nat.ne_of_lt (Nat.lt_of_lt_of_le (by have := World.block_lt_of_cell? _ _ hw357_1; first | rwa [add_block] at this | exact this) GW360.out) | (rw [add_block]; exact Nat.ne_of_lt (Nat.lt_of_lt_of_le (by have := World.block_lt_of_cell? _ _ hw357_1; first | rwa [add_block] at this | exact this) GW360.out)) | (show (Addr.add _ _).block ≠ _; rw [add_block]; exact Nat.ne_of_lt (Nat.lt_of_lt_of_le (by have := World.block_lt_of_cell? _ _ hw357_1; first | rwa [add_block] at this | exact this) GW360.out)) | (dsimp only; exact Nat.ne_of_lt (Nat.lt_of_lt_of_le (by have := World.block_lt_of_cell? _ _ hw357_1; first | rwa [add_block] at this | exact this) GW360.out))) _).trans (((cell_far (p := ⟨gb360, _, none⟩) (by first | exact Nat.ne_of_lt (Nat.lt_of_lt_of_le (by have := World.block_lt_of_cell? _ _ hw357_1; first | rwa [add_block] at this | exact this) GW360.out) | (rw [add_block]; exact Nat.ne_of_lt (Nat.lt_of_lt_of_le (by have := World.block_lt_of_cell? _ _ hw357_1; first | rwa [add_block] at this | exact this) GW360.out)) | (show (Addr.add _ _).block ≠ _; rw [add_block]; exact Nat.ne_of_lt (Nat.lt_of_lt_of_le (by have := World.block_lt_of_cell? _ _ hw357_1; first | rwa [add_block] at this | exact this) GW360.out)) | (dsimp only; exact Nat.ne_of_lt (Nat.lt_of_lt_of_le (by have := World.block_lt_of_cell? _ _ hw357_1; first | rwa [add_block] at this | exact this) GW360.out))) _).trans (hHeld.2.1)))), ((cell_far (p := ⟨gb360, _, none⟩) (by first | exact Nat.ne_of_lt (Nat.lt_of_lt_of_le (by have := World.block_lt_of_cell? _ _ hw358_0; first | rwa [add_block] at this | exact this) GW360.out) | (rw [add_block]; exact Nat.ne_of_lt (Nat.lt_of_lt_of_le (by have := World.block_lt_of_cell? _ _ hw358_0; first | rwa [add_block] at this | exact this) GW360.out)) | (show (Addr.add _ _).block ≠ _; rw [add_block]; exact Nat.ne_of_lt (Nat.lt_of_lt_of_le (by have := World.block_lt_of_cell? _ _ hw358_0; first | rwa [add_block] at this | exact this) GW360.out)) | (dsimp only; exact Nat.ne_of_lt (Nat.lt_of_lt_of_le (by have := World.block_lt_of_cell? _ _ hw358_0; first | rwa [add_block] at this | exact this) GW360.out))) _).trans (((cell_far (p := ⟨gb360, _, none⟩) (by first | exact Nat.ne_of_lt (Nat.lt_of_lt_of_le (by have := World.block_lt_of_cell? _ _ hw358_0; first | rwa [add_block] at this | exact this) GW360.out) | (rw [add_block]; exact Nat.ne_of_lt (Nat.lt_of_lt_of_le (by have := World.block_lt_of_cell? _ _ hw358_0; first | rwa [add_block] at this | exact this) GW360.out)) | (show (Addr.add _ _).block ≠ _; rw [add_block]; exact Nat.ne_of_lt (Nat.lt_of_lt_of_le (by have := World.block_lt_of_cell? _ _ hw358_0; first | rwa [add_block] at this | exact this) GW360.out)) | (dsimp only; exact Nat.ne_of_lt (Nat.lt_of_lt_of_le (by have := World.block_lt_of_cell? _ _ hw358_0; first | rwa [add_block] at this | exact this) GW360.out))) _).trans (hHeld.2.2.1)))), ((cell_far (p := ⟨gb360, _, none⟩) (by first | exact Nat.ne_of_lt (Nat.lt_of_lt_of_le (by have := World.block_lt_of_cell? _ _ hw358_1; first | rwa [add_block] at this | exact this) GW360.out) | (rw [add_block]; exact Nat.ne_of_lt (Nat.lt_of_lt_of_le (by have := World.block_lt_of_cell? _ _ hw358_1; first | rwa [add_block] at this | exact this) GW360.out)) | (show (Addr.add _ _).block ≠ _; rw [add_block]; exact Nat.ne_of_lt (Nat.lt_of_lt_of_le (by have := World.block_lt_of_cell? _ _ hw358_1; first | rwa [add_block] at this | exact this) GW360.out)) | (dsimp only; exact Nat.ne_of_lt (Nat.lt_of_lt_of_le (by have := World.block_lt_of_cell? _ _ hw358_1; first | rwa [add_block] at this | exact this) GW360.out))) _).trans (((cell_far (p := ⟨gb360, _, none⟩) (by first | exact Nat.ne_of_lt (Nat.lt_of_lt_of_le (by have := World.block_lt_of_cell? _ _ hw358_1; first | rwa [add_block] at this | exact this) GW360.out) | (rw [add_block]; exact Nat.ne_of_lt (Nat.lt_of_lt_of_le (by have := World.block_lt_of_cell? _ _ hw358_1; first | rwa [add_block] at this | exact this) GW360.out)) | (show (Addr.add _ _).block ≠ _; rw [add_block]; exact Nat.ne_of_lt (Nat.lt_of_lt_of_le (by have := World.block_lt_of_cell? _ _ hw358_1; first | rwa [add_block] at this | exact this) GW360.out)) | (dsimp only; exact Nat.ne_of_lt (Nat.lt_of_lt_of_le (by have := World.block_lt_of_cell? _ _ hw358_1; first | rwa [add_block] at this | exact this) GW360.out))) _).trans (hHeld.2.2.2))))⟩ (fun hHeld => ?_)
            clear hK K
            refine done_ (done_of HT_.out (by kernel_rfl)) ?_
            have hnb36 := NB359_360.out
            have hnc36 := NB360_359.out
            have hcz37_0 : w31.cell? ⟨gb359, 0, none⟩ = some (.int .i64 0) := (blk_cell BK359.out 0).trans rfl
            have hcz37_1 : w31.cell? ⟨gb359, 1, none⟩ = some (.int .i64 0) := (blk_cell BK359.out 1).trans rfl
            have hfz37_0 := blk_frozen BK359.out 0
            have hfz37_1 := blk_frozen BK359.out 1
            have hcz38_0 : w31.cell? ⟨gb360, 0, none⟩ = some (.int .i64 0) := (blk_cell BK360.out 0).trans rfl
            have hcz38_1 : w31.cell? ⟨gb360, 1, none⟩ = some (.int .i64 0) := (blk_cell BK360.out 1).trans rfl
            have hfz38_0 := blk_frozen BK360.out 0
            have hfz38_1 := blk_frozen BK360.out 1
            try go_wp2_with (first | (go_at_call 53; (with_reducible refine (impl_isNail.calls ji25 t361 _ A26.out).mono ?_); rintro e w' ⟨rfl, ⟨nd, rfl⟩⟩))
            go_ret2
            exact ⟨by first | rfl | (simp [errW_none, errW_some] <;> rfl) | (simp only [← hji12, ← hji20, ← hji23, ← hji25]; first | rfl | (simp [errW_none, errW_some] <;> rfl)) | (simp [*, errW_none, errW_some] <;> rfl), by repeat (first | (with_reducible first | exact HB.out | apply below_alloc | apply pw_below_drewN | apply below_drew1 | refine below_set ?_ GE359.out | refine below_set ?_ GE360.out) | exact HB.out)⟩
           ·rw [if_neg c24] at H
            have c24b0 : ((ji23) == 0) = false := beq_eq_false_iff_ne.mpr c24
            have c24b1 : ((ji23) != 0) = true := bne_iff_ne.mpr c24
            simp only [Option.some.injEq, Prod.mk.injEq] at H
            obtain ⟨rfl, rfl⟩ := H
            go_enter Tryd.func50, Tryd.ntmps50
            try go_wp2
            have n0_ := Aside0.mk (below_drew1 HB.out)
            clear HB
            have HB := n0_
            clear n0_
            have p10 : 0 ≤ (a2 : Int) := of_decide_eq_true (by first | (with_reducible assumption) | assumption)
            have q10 : a2 < (a0.size : Int) := of_decide_eq_true (by first | (with_reducible assumption) | assumption)
            have hx10 := bt_at a0 a2
            replace p10 := eq_true p10
            replace q10 := eq_true q10
            have p15 : 0 ≤ ((ji12) : Int) := of_decide_eq_true (by first | (with_reducible assumption) | assumption)
            have q15 : (ji12) < (a0.size : Int) := of_decide_eq_true (by first | (with_reducible assumption) | assumption)
            have hx15 := bt_at a0 (ji12)
            replace p15 := eq_true p15
            replace q15 := eq_true q15
            refine start_ (n := 21) (S := fun w' => True) (ds := []) #[false, false, false, false, false, false, false, false, false, false, false, false, false, false, false, false, false, false, false, false, false] (by kernel_rfl) rfl rfl trivial (fun hHeld => ?_); refine with_tabW impl_corner.tab1 impl_corner.bits1 (fun HT_ HW_ => ?_)
            generalize w.drew = w39 at HB hHeld ⊢
            refine pure_ (i := 0) (N := some 10) (v := ?_) (a' := ?_) #[true, false, false, false, false, false, false, false, false, false, false, false, false, false, false, false, false, false, false, false, false] rfl rfl (any_of HT_.out (by kernel_rfl)) (fun _ _ _ h => h) (Or.inl ⟨by rfl, ?_⟩) ?_ ?_
            rotate_left
            ·intro w'
             go_simp
             with_reducible rfl
            rotate_left
            ·simp only [Act.put, List.setIfInBounds_toArray, List.set_cons_zero, List.set_cons_succ, i64_w, i32_w]
             rfl
            refine pure_ (i := 1) (N := some 11) (v := ?_) (a' := ?_) #[true, true, false, false, false, false, false, false, false, false, false, false, false, false, false, false, false, false, false, false, false] rfl rfl (any_of HT_.out (by kernel_rfl)) (fun _ _ _ h => h) (Or.inl ⟨by rfl, ?_⟩) ?_ ?_
            rotate_left
            ·intro w'
             go_simp
             with_reducible rfl
            rotate_left
            ·simp only [Act.put, List.setIfInBounds_toArray, List.set_cons_zero, List.set_cons_succ, i64_w, i32_w]
             rfl
            refine pure_ (i := 2) (N := some 12) (v := ?_) (a' := ?_) #[true, true, true, false, false, false, false, false, false, false, false, false, false, false, false, false, false, false, false, false, false] rfl rfl (any_of HT_.out (by kernel_rfl)) (fun _ _ _ h => h) (Or.inl ⟨by rfl, ?_⟩) ?_ ?_
            rotate_left
            ·intro w'
             go_simp
             with_reducible rfl
            rotate_left
            ·simp only [Act.put, List.setIfInBounds_toArray, List.set_cons_zero, List.set_cons_succ, i64_w, i32_w]
             rfl
            refine pure_ (i := 3) (N := some 13) (v := ?_) (a' := ?_) #[true, true, true, true, false, false, false, false, false, false, false, false, false, false, false, false, false, false, false, false, false] rfl rfl (any_of HT_.out (by kernel_rfl)) (fun _ _ _ h => h) (Or.inl ⟨by rfl, ?_⟩) ?_ ?_
            rotate_left
            ·intro w'
             go_simp
             with_reducible rfl
            rotate_left
            ·simp only [Act.put, List.setIfInBounds_toArray, List.set_cons_zero, List.set_cons_succ, i64_w, i32_w]
             rfl
            refine pure_ (i := 4) (N := some 14) (v := ?_) (a' := ?_) #[true, true, true, true, true, false, false, false, false, false, false, false, false, false, false, false, false, false, false, false, false] rfl rfl (any_of HT_.out (by kernel_rfl)) (fun _ _ _ h => h) (Or.inl ⟨by rfl, ?_⟩) ?_ ?_
            rotate_left
            ·intro w'
             go_simp
             with_reducible rfl
            rotate_left
            ·simp only [Act.put, List.setIfInBounds_toArray, List.set_cons_zero, List.set_cons_succ, i64_w, i32_w]
             rfl
            refine pure_ (i := 5) (N := some 15) (v := ?_) (a' := ?_) #[true, true, true, true, true, true, false, false, false, false, false, false, false, false, false, false, false, false, false, false, false] rfl rfl (any_of HT_.out (by kernel_rfl)) (fun _ _ _ h => h) (Or.inl ⟨by rfl, ?_⟩) ?_ ?_
            rotate_left
            ·intro w'
             go_simp
             with_reducible rfl
            rotate_left
            ·simp only [Act.put, List.setIfInBounds_toArray, List.set_cons_zero, List.set_cons_succ, i64_w, i32_w]
             rfl
            refine pure_ (i := 6) (N := some 16) (v := ?_) (a' := ?_) #[true, true, true, true, true, true, true, false, false, false, false, false, false, false, false, false, false, false, false, false, false] rfl rfl (any_of HT_.out (by kernel_rfl)) (fun _ _ _ h => h) (Or.inl ⟨by rfl, ?_⟩) ?_ ?_
            rotate_left
            ·intro w'
             go_simp
             with_reducible rfl
            rotate_left
            ·simp only [Act.put, List.setIfInBounds_toArray, List.set_cons_zero, List.set_cons_succ, i64_w, i32_w]
             rfl
            refine pure_ (i := 7) (N := some 17) (v := ?_) (a' := ?_) #[true, true, true, true, true, true, true, true, false, false, false, false, false, false, false, false, false, false, false, false, false] rfl rfl (any_of HT_.out (by kernel_rfl)) (fun _ _ _ h => h) (Or.inl ⟨by rfl, ?_⟩) ?_ ?_
            rotate_left
            ·intro w'
             go_simp
             with_reducible rfl
            rotate_left
            ·simp only [Act.put, List.setIfInBounds_toArray, List.set_cons_zero, List.set_cons_succ, i64_w, i32_w]
             rfl
            refine pure_ (i := 8) (N := some 18) (v := ?_) (a' := ?_) #[true, true, true, true, true, true, true, true, true, false, false, false, false, false, false, false, false, false, false, false, false] rfl rfl (any_of HT_.out (by kernel_rfl)) (fun _ _ _ h => h) (Or.inl ⟨by rfl, ?_⟩) ?_ ?_
            rotate_left
            ·intro w'
             go_simp
             with_reducible rfl
            rotate_left
            ·simp only [Act.put, List.setIfInBounds_toArray, List.set_cons_zero, List.set_cons_succ, i64_w, i32_w]
             rfl
            refine pure_ (i := 9) (N := some 19) (v := ?_) (a' := ?_) #[true, true, true, true, true, true, true, true, true, true, false, false, false, false, false, false, false, false, false, false, false] rfl rfl (any_of HT_.out (by kernel_rfl)) (fun _ _ _ h => h) (Or.inl ⟨by rfl, ?_⟩) ?_ ?_
            rotate_left
            ·intro w'
             go_simp
             with_reducible rfl
            rotate_left
            ·simp only [Act.put, List.setIfInBounds_toArray, List.set_cons_zero, List.set_cons_succ, i64_w, i32_w]
             rfl
            refine pure_ (i := 10) (N := some 20) (v := ?_) (a' := ?_) #[true, true, true, true, true, true, true, true, true, true, true, false, false, false, false, false, false, false, false, false, false] rfl rfl (any_of HT_.out (by kernel_rfl)) (fun _ _ _ h => h) (Or.inl ⟨by rfl, ?_⟩) ?_ ?_
            rotate_left
            ·intro w'
             go_simp
             with_reducible rfl
            rotate_left
            ·simp only [Act.put, List.setIfInBounds_toArray, List.set_cons_zero, List.set_cons_succ, i64_w, i32_w]
             rfl
            refine pure_ (i := 11) (N := some 21) (v := ?_) (a' := ?_) #[true, true, true, true, true, true, true, true, true, true, true, true, false, false, false, false, false, false, false, false, false] rfl rfl (any_of HT_.out (by kernel_rfl)) (fun _ _ _ h => h) (Or.inl ⟨by rfl, ?_⟩) ?_ ?_
            rotate_left
            ·intro w'
             go_simp
             with_reducible rfl
            rotate_left
            ·simp only [Act.put, List.setIfInBounds_toArray, List.set_cons_zero, List.set_cons_succ, i64_w, i32_w]
             rfl
            refine pure_ (i := 14) (N := some 24) (v := ?_) (a' := ?_) #[true, true, true, true, true, true, true, true, true, true, true, true, false, false, true, false, false, false, false, false, false] rfl rfl (any_of HT_.out (by kernel_rfl)) (fun _ _ _ h => h) (Or.inl ⟨by rfl, ?_⟩) ?_ ?_
            rotate_left
            ·intro w'
             go_simp
             with_reducible rfl
            rotate_left
            ·simp only [Act.put, List.setIfInBounds_toArray, List.set_cons_zero, List.set_cons_succ, i64_w, i32_w]
             rfl
            refine pure_ (i := 15) (N := some 25) (v := ?_) (a' := ?_) #[true, true, true, true, true, true, true, true, true, true, true, true, false, false, true, true, false, false, false, false, false] rfl rfl (any_of HT_.out (by kernel_rfl)) (fun _ _ _ h => h) (Or.inl ⟨by rfl, ?_⟩) ?_ ?_
            rotate_left
            ·intro w'
             go_simp
             with_reducible rfl
            rotate_left
            ·simp only [Act.put, List.setIfInBounds_toArray, List.set_cons_zero, List.set_cons_succ, i64_w, i32_w]
             rfl
            refine pure_ (i := 16) (N := some 26) (v := ?_) (a' := ?_) #[true, true, true, true, true, true, true, true, true, true, true, true, false, false, true, true, true, false, false, false, false] rfl rfl (any_of HT_.out (by kernel_rfl)) (fun _ _ _ h => h) (Or.inl ⟨by rfl, ?_⟩) ?_ ?_
            rotate_left
            ·intro w'
             go_simp
             with_reducible rfl
            rotate_left
            ·simp only [Act.put, List.setIfInBounds_toArray, List.set_cons_zero, List.set_cons_succ, i64_w, i32_w]
             rfl
            refine take_ (i := 12) (N := some 22) (v := ?_) (a' := ?_) #[true, true, true, true, true, true, true, true, true, true, true, true, true, false, true, true, true, false, false, false, false] rfl rfl (take_ofW HT_.out HW_.out (by kernel_rfl)) (fun _ _ _ h => h) (Or.inl ⟨by rfl, ?_⟩) hHeld ?_ ?_
            rotate_left
            ·intro w' _
             go_simp
             with_reducible rfl
            rotate_left
            ·simp only [Act.put, List.setIfInBounds_toArray, List.set_cons_zero, List.set_cons_succ, i64_w, i32_w]
             rfl
            refine take_ (i := 17) (N := some 27) (v := ?_) (a' := ?_) #[true, true, true, true, true, true, true, true, true, true, true, true, true, false, true, true, true, true, false, false, false] rfl rfl (take_ofW HT_.out HW_.out (by kernel_rfl)) (fun _ _ _ h => h) (Or.inl ⟨by rfl, ?_⟩) hHeld ?_ ?_
            rotate_left
            ·intro w' _
             go_simp
             with_reducible rfl
            rotate_left
            ·simp only [Act.put, List.setIfInBounds_toArray, List.set_cons_zero, List.set_cons_succ, i64_w, i32_w]
             rfl
            refine one_ (i := 13) (N := some 23) #[true, true, true, true, true, true, true, true, true, true, true, true, true, true, true, true, true, true, false, false, false] rfl rfl (one_of HT_.out (by kernel_rfl)) (by decide) (fun K hK => ?_)
            refine goes_ Tryd.func62 (by kernel_rfl) rfl #[.int .u8 (bt a0 a2)] (by rfl) rfl rfl (by (try simp only [List.map_toArray, List.map_cons, List.map_nil]); first | done | rfl | (simp only [List.length_drop, List.length_take]; rfl)) ?_
            with_reducible refine (impl_isAside.calls (bt a0 a2) t355 _ A11.out).mono ?_
            rintro e w' ⟨rfl, ⟨nd, rfl⟩⟩
            refine ⟨_, rfl, ?_⟩
            refine hK.out _ _ trivial (fun hHeld => ?_)
            clear hK K
            refine norm_ (a' := ?_) ?_ ?_
            rotate_left
            ·show Act.put _ (some 23) _ = _
             simp only [Act.put, List.setIfInBounds_toArray, List.set_cons_zero, List.set_cons_succ, i64_w, i32_w]
             rfl
            refine one_ (i := 18) (N := some 28) #[true, true, true, true, true, true, true, true, true, true, true, true, true, true, true, true, true, true, true, false, false] rfl rfl (one_of HT_.out (by kernel_rfl)) (by decide) (fun K hK => ?_)
            refine goes_ Tryd.func62 (by kernel_rfl) rfl #[.int .u8 (bt a0 (ji12))] (by rfl) rfl rfl (by (try simp only [List.map_toArray, List.map_cons, List.map_nil]); first | done | (simp only [hji12]; rfl) | rfl | (simp only [List.length_drop, List.length_take]; rfl)) ?_
            with_reducible refine (impl_isAside.calls (bt a0 (ji12)) t356 _ A16.out).mono ?_
            rintro e w' ⟨rfl, ⟨nd, rfl⟩⟩
            refine ⟨_, rfl, ?_⟩
            refine hK.out _ _ trivial (fun hHeld => ?_)
            clear hK K
            refine norm_ (a' := ?_) ?_ ?_
            rotate_left
            ·show Act.put _ (some 28) _ = _
             simp only [Act.put, List.setIfInBounds_toArray, List.set_cons_zero, List.set_cons_succ, i64_w, i32_w]
             rfl
            refine pure_ (i := 19) (N := some 29) (v := ?_) (a' := ?_) #[true, true, true, true, true, true, true, true, true, true, true, true, true, true, true, true, true, true, true, true, false] rfl rfl (any_of HT_.out (by kernel_rfl)) (fun _ _ _ h => h) (Or.inl ⟨by rfl, ?_⟩) ?_ ?_
            rotate_left
            ·intro w'
             go_simp
             with_reducible rfl
            rotate_left
            ·simp only [Act.put, List.setIfInBounds_toArray, List.set_cons_zero, List.set_cons_succ, i64_w, i32_w]
             rfl
            refine pure_ (i := 20) (N := some 30) (v := ?_) (a' := ?_) #[true, true, true, true, true, true, true, true, true, true, true, true, true, true, true, true, true, true, true, true, true] rfl rfl (any_of HT_.out (by kernel_rfl)) (fun _ _ _ h => h) (Or.inl ⟨by rfl, ?_⟩) ?_ ?_
            rotate_left
            ·intro w'
             go_simp
             with_reducible rfl
            rotate_left
            ·simp only [Act.put, List.setIfInBounds_toArray, List.set_cons_zero, List.set_cons_succ, i64_w, i32_w]
             rfl
            refine done_ (done_of HT_.out (by kernel_rfl)) ?_
            try go_wp2
            (repeat (rw [drewN_self w39]; generalize hq_ : World.drewN w39 _ = w39; have n0_ : Aside0 (Below w.heap.size w w39) := ⟨by rw [← hq_]; exact (by repeat (first | (with_reducible first | exact HB.out | apply below_alloc | apply pw_below_drewN | apply below_drew1) | exact HB.out))⟩; clear HB hq_; have HB := n0_; clear n0_))
            have n0_ := Aside0.mk (below_drew1 HB.out)
            clear HB
            have HB := n0_
            clear n0_
            have p357 : 0 ≤ (a2 : Int) := of_decide_eq_true (by first | (with_reducible assumption) | assumption)
            have q357 : a2 < (l1.length : Int) := of_decide_eq_true (by first | (with_reducible assumption) | assumption)
            obtain ⟨ad357, e357, hx357_0, hx357_1⟩ := at_T54 HR1.out a2 p357 q357
            have hw357_1 := hx357_1
            have hw357_0 := hx357_0
            cases e357
            replace hx357_0 := (HB.out.cell (World.block_lt_of_cell? w _ hx357_0)).trans hx357_0
            replace hx357_1 := (HB.out.cell (World.block_lt_of_cell? w _ hx357_1)).trans hx357_1
            replace p357 := eq_true p357
            replace q357 := eq_true q357
            have p358 : 0 ≤ ((ji20) : Int) := of_decide_eq_true (by first | (with_reducible assumption) | assumption)
            have q358 : (ji20) < (l1.length : Int) := of_decide_eq_true (by first | (with_reducible assumption) | assumption)
            obtain ⟨ad358, e358, hx358_0, hx358_1⟩ := at_T54 HR1.out (ji20) p358 q358
            have hw358_1 := hx358_1
            have hw358_0 := hx358_0
            obtain rfl : ad357 = ad358 := (by injection e358)
            replace hx358_0 := (HB.out.cell (World.block_lt_of_cell? w _ hx358_0)).trans hx358_0
            replace hx358_1 := (HB.out.cell (World.block_lt_of_cell? w _ hx358_1)).trans hx358_1
            replace p358 := eq_true p358
            replace q358 := eq_true q358
            refine start_ (n := 13) (S := fun w' => w'.cell? (ad357.add ((a2).toNat * 2)) = some (.int .i64 ((rd_T54 l1 a2).f0)) ∧ w'.cell? ⟨(ad357.add ((a2).toNat * 2)).block, (ad357.add ((a2).toNat * 2)).off + 1, none⟩ = some (.int .i64 ((rd_T54 l1 a2).f1)) ∧ w'.cell? (ad357.add (((ji20)).toNat * 2)) = some (.int .i64 ((rd_T54 l1 (ji20)).f0)) ∧ w'.cell? ⟨(ad357.add (((ji20)).toNat * 2)).block, (ad357.add (((ji20)).toNat * 2)).off + 1, none⟩ = some (.int .i64 ((rd_T54 l1 (ji20)).f1))) (ds := []) #[false, false, false, false, false, false, false, false, false, false, false, false, false] (by kernel_rfl) rfl rfl ⟨((HB.out.cell (World.block_lt_of_cell? w _ hw357_0)).trans hw357_0), ((HB.out.cell (World.block_lt_of_cell? w _ hw357_1)).trans hw357_1), ((HB.out.cell (World.block_lt_of_cell? w _ hw358_0)).trans hw358_0), ((HB.out.cell (World.block_lt_of_cell? w _ hw358_1)).trans hw358_1)⟩ (fun hHeld => ?_); refine with_tabW impl_corner.tab3 impl_corner.bits3 (fun HT_ HW_ => ?_)
            generalize w39.drew = w40 at HB hx357_0 hx357_1 hx358_0 hx358_1 hHeld ⊢
            refine pure_ (i := 0) (N := some 31) (v := ?_) (a' := ?_) #[true, false, false, false, false, false, false, false, false, false, false, false, false] rfl rfl (any_of HT_.out (by kernel_rfl)) (fun _ _ _ h => h) (Or.inl ⟨by rfl, ?_⟩) ?_ ?_
            rotate_left
            ·intro w'
             go_simp
             with_reducible rfl
            rotate_left
            ·simp only [Act.put, List.setIfInBounds_toArray, List.set_cons_zero, List.set_cons_succ, i64_w, i32_w]
             rfl
            refine pure_ (i := 1) (N := some 32) (v := ?_) (a' := ?_) #[true, true, false, false, false, false, false, false, false, false, false, false, false] rfl rfl (any_of HT_.out (by kernel_rfl)) (fun _ _ _ h => h) (Or.inl ⟨by rfl, ?_⟩) ?_ ?_
            rotate_left
            ·intro w'
             go_simp
             with_reducible rfl
            rotate_left
            ·simp only [Act.put, List.setIfInBounds_toArray, List.set_cons_zero, List.set_cons_succ, i64_w, i32_w]
             rfl
            refine pure_ (i := 2) (N := some 33) (v := ?_) (a' := ?_) #[true, true, true, false, false, false, false, false, false, false, false, false, false] rfl rfl (any_of HT_.out (by kernel_rfl)) (fun _ _ _ h => h) (Or.inl ⟨by rfl, ?_⟩) ?_ ?_
            rotate_left
            ·intro w'
             go_simp
             with_reducible rfl
            rotate_left
            ·simp only [Act.put, List.setIfInBounds_toArray, List.set_cons_zero, List.set_cons_succ, i64_w, i32_w]
             rfl
            refine pure_ (i := 4) (N := some 35) (v := ?_) (a' := ?_) #[true, true, true, false, true, false, false, false, false, false, false, false, false] rfl rfl (any_of HT_.out (by kernel_rfl)) (fun _ _ _ h => h) (Or.inl ⟨by rfl, ?_⟩) ?_ ?_
            rotate_left
            ·intro w'
             go_simp
             with_reducible rfl
            rotate_left
            ·simp only [Act.put, List.setIfInBounds_toArray, List.set_cons_zero, List.set_cons_succ, i64_w, i32_w]
             rfl
            refine pure_ (i := 5) (N := some 36) (v := ?_) (a' := ?_) #[true, true, true, false, true, true, false, false, false, false, false, false, false] rfl rfl (any_of HT_.out (by kernel_rfl)) (fun _ _ _ h => h) (Or.inl ⟨by rfl, ?_⟩) ?_ ?_
            rotate_left
            ·intro w'
             go_simp
             with_reducible rfl
            rotate_left
            ·simp only [Act.put, List.setIfInBounds_toArray, List.set_cons_zero, List.set_cons_succ, i64_w, i32_w]
             rfl
            refine pure_ (i := 6) (N := some 37) (v := ?_) (a' := ?_) #[true, true, true, false, true, true, true, false, false, false, false, false, false] rfl rfl (any_of HT_.out (by kernel_rfl)) (fun _ _ _ h => h) (Or.inl ⟨by rfl, ?_⟩) ?_ ?_
            rotate_left
            ·intro w'
             go_simp
             with_reducible rfl
            rotate_left
            ·simp only [Act.put, List.setIfInBounds_toArray, List.set_cons_zero, List.set_cons_succ, i64_w, i32_w]
             rfl
            refine pure_ (i := 7) (N := some 38) (v := ?_) (a' := ?_) #[true, true, true, false, true, true, true, true, false, false, false, false, false] rfl rfl (any_of HT_.out (by kernel_rfl)) (fun _ _ _ h => h) (Or.inl ⟨by rfl, ?_⟩) ?_ ?_
            rotate_left
            ·intro w'
             go_simp
             with_reducible rfl
            rotate_left
            ·simp only [Act.put, List.setIfInBounds_toArray, List.set_cons_zero, List.set_cons_succ, i64_w, i32_w]
             rfl
            refine take_ (i := 3) (N := some 34) (v := ?_) (a' := ?_) #[true, true, true, true, true, true, true, true, false, false, false, false, false] rfl rfl (take_ofW HT_.out HW_.out (by kernel_rfl)) (fun _ _ _ h => h) (Or.inl ⟨by rfl, ?_⟩) hHeld ?_ ?_
            rotate_left
            ·rintro w' ⟨s0, s1, s2, s3⟩
             go_simp
             with_reducible rfl
            rotate_left
            ·simp only [Act.put, List.setIfInBounds_toArray, List.set_cons_zero, List.set_cons_succ, i64_w, i32_w]
             rfl
            refine take_ (i := 8) (N := some 39) (v := ?_) (a' := ?_) #[true, true, true, true, true, true, true, true, true, false, false, false, false] rfl rfl (take_ofW HT_.out HW_.out (by kernel_rfl)) (fun _ _ _ h => h) (Or.inl ⟨by rfl, ?_⟩) hHeld ?_ ?_
            rotate_left
            ·rintro w' ⟨s0, s1, s2, s3⟩
             go_simp
             with_reducible rfl
            rotate_left
            ·simp only [Act.put, List.setIfInBounds_toArray, List.set_cons_zero, List.set_cons_succ, i64_w, i32_w]
             rfl
            refine join_ (σ := Nat × Nat) 2 #[true, true, true, true, true, true, true, true, true, true, true, false, false] (fun s_ => [(8, .pointer (some ⟨s_.1, 0, none⟩)), (9, .pointer (some ⟨s_.2, 0, none⟩))]) (fun s_ w' => (w'.cell? (ad357.add ((a2).toNat * 2)) = some (.int .i64 ((rd_T54 l1 a2).f0)) ∧ w'.cell? ⟨(ad357.add ((a2).toNat * 2)).block, (ad357.add ((a2).toNat * 2)).off + 1, none⟩ = some (.int .i64 ((rd_T54 l1 a2).f1)) ∧ w'.cell? (ad357.add (((ji20)).toNat * 2)) = some (.int .i64 ((rd_T54 l1 (ji20)).f0)) ∧ w'.cell? ⟨(ad357.add (((ji20)).toNat * 2)).block, (ad357.add (((ji20)).toNat * 2)).off + 1, none⟩ = some (.int .i64 ((rd_T54 l1 (ji20)).f1))) ∧ (w'.heap[s_.1]? = some (.cells #[.int .i64 0, .int .i64 0] 54 (0, 0))) ∧ (w'.heap[s_.2]? = some (.cells #[.int .i64 0, .int .i64 0] 54 (0, 0))) ∧ (w.heap.size ≤ s_.1) ∧ (w.heap.size ≤ s_.1) ∧ (s_.2 ≠ s_.1) ∧ (s_.1 ≠ s_.2) ∧ (w.heap.size ≤ s_.2) ∧ (w.heap.size ≤ s_.2) ∧ (Below w.heap.size w w')) ?_ ?_
            rotate_left
            ·intro hCont
             refine two_ (i := 9) (j := 10) (Ni := some 8) (Nj := some 9) #[true, true, true, true, true, true, true, true, true, true, false, false, false] #[true, true, true, true, true, true, true, true, true, false, true, false, false] rfl rfl rfl rfl (two_of HT_.out (by kernel_rfl)) (by decide) (by decide) (fun K hK => ?_) (fun K hK => ?_)
             ·skip
              refine box_step ?hg (N := 8) ?hd (cs := #[.int .i64 0, .int .i64 0]) (t := 54) ?hr ?_; (case hd => rfl); (case hg => rfl); (case hr => first | (go_simp; done) | (go_simp; rfl))
              intro gb359 hg w41 hbox hb
              have n0_ := Aside0.mk (below_step (by repeat (first | (with_reducible first | exact HB.out | apply below_alloc | apply pw_below_drewN | apply below_drew1) | exact HB.out)) hb)
              have n1_ := Aside0.mk (hbox)
              have n2_ := Aside0.mk ((by rw [hg]; exact (below_size (by repeat (first | (with_reducible first | exact HB.out | apply below_alloc | apply pw_below_drewN | apply below_drew1) | exact HB.out))) : w.heap.size ≤ gb359))
              have n3_ := Aside0.mk ((by rw [hg]; exact (below_size (by repeat (first | (with_reducible first | exact HB.out | apply below_alloc | apply pw_below_drewN | apply below_drew1) | exact HB.out))) : w.heap.size ≤ gb359))
              clear HB
              have HB := n0_
              have BK359 := n1_
              have GW359 := n2_
              have GE359 := n3_
              clear n0_ n1_ n2_ n3_
              clear hb hbox hg
              refine hK.out _ _ ⟨((HB.out.cell (World.block_lt_of_cell? w _ hw357_0)).trans hw357_0), ((HB.out.cell (World.block_lt_of_cell? w _ hw357_1)).trans hw357_1), ((HB.out.cell (World.block_lt_of_cell? w _ hw358_0)).trans hw358_0), ((HB.out.cell (World.block_lt_of_cell? w _ hw358_1)).trans hw358_1)⟩ (fun hHeld => ?_)
              clear hK K
              refine norm_ (a' := ?_) ?_ ?_
              rotate_left
              ·show Act.put _ (some 8) _ = _
               simp only [Act.put, List.setIfInBounds_toArray, List.set_cons_zero, List.set_cons_succ, i64_w, i32_w]
               rfl
              refine one_ (i := 10) (N := some 9) #[true, true, true, true, true, true, true, true, true, true, true, false, false] rfl rfl (one_of HT_.out (by kernel_rfl)) (by decide) (fun K hK => ?_)
              refine box_step ?hg (N := 9) ?hd (cs := #[.int .i64 0, .int .i64 0]) (t := 54) ?hr ?_; (case hd => rfl); (case hg => rfl); (case hr => first | (go_simp; done) | (go_simp; rfl))
              intro gb360 hg w42 hbox hb
              have n0_ := Aside0.mk (blk_below (g := gb359) (o := .cells #[.int .i64 0, .int .i64 0] 54 (0, 0)) (by (with_reducible repeat (first | refine blk_drewN ?_ _ | refine blk_drew ?_ | refine blk_alloc ?_ _)); exact BK359.out) hb)
              have n1_ := Aside0.mk (below_step (by repeat (first | (with_reducible first | exact HB.out | apply below_alloc | apply pw_below_drewN | apply below_drew1 | refine below_set ?_ GE359.out) | exact HB.out)) hb)
              have n2_ := Aside0.mk (hbox)
              have n3_ := Aside0.mk ((by rw [hg]; exact (below_size (by repeat (first | (with_reducible first | exact HB.out | apply below_alloc | apply pw_below_drewN | apply below_drew1 | refine below_set ?_ GE359.out) | exact HB.out))) : w.heap.size ≤ gb360))
              have n4_ := Aside0.mk ((by rw [hg]; exact (below_size (by repeat (first | (with_reducible first | exact HB.out | apply below_alloc | apply pw_below_drewN | apply below_drew1 | refine below_set ?_ GE359.out) | exact HB.out))) : w.heap.size ≤ gb360))
              have n5_ := Aside0.mk ((by rw [hg]; exact Nat.ne_of_lt (blk_lt (g := gb359) (o := .cells #[.int .i64 0, .int .i64 0] 54 (0, 0)) (by (with_reducible repeat (first | refine blk_drewN ?_ _ | refine blk_drew ?_ | refine blk_alloc ?_ _)); exact BK359.out)) : gb359 ≠ gb360))
              have n6_ := Aside0.mk ((by rw [hg]; exact Nat.ne_of_gt (blk_lt (g := gb359) (o := .cells #[.int .i64 0, .int .i64 0] 54 (0, 0)) (by (with_reducible repeat (first | refine blk_drewN ?_ _ | refine blk_drew ?_ | refine blk_alloc ?_ _)); exact BK359.out)) : gb360 ≠ gb359))
              clear BK359
              clear HB
              have BK359 := n0_
              have HB := n1_
              have BK360 := n2_
              have GW360 := n3_
              have GE360 := n4_
              have NB359_360 := n5_
              have NB360_359 := n6_
              clear n0_ n1_ n2_ n3_ n4_ n5_ n6_
              clear hb hbox hg
              refine hK.out _ _ ⟨((HB.out.cell (World.block_lt_of_cell? w _ hw357_0)).trans hw357_0), ((HB.out.cell (World.block_lt_of_cell? w _ hw357_1)).trans hw357_1), ((HB.out.cell (World.block_lt_of_cell? w _ hw358_0)).trans hw358_0), ((HB.out.cell (World.block_lt_of_cell? w _ hw358_1)).trans hw358_1)⟩ (fun hHeld => ?_)
              clear hK K
              refine norm_ (a' := ?_) ?_ ?_
              rotate_left
              ·show Act.put _ (some 9) _ = _
               simp only [Act.put, List.setIfInBounds_toArray, List.set_cons_zero, List.set_cons_succ, i64_w, i32_w]
               rfl
              exact norm_ (by simp only [putAll, Act.put, List.setIfInBounds_toArray, List.set_cons_zero, List.set_cons_succ]) (hCont (gb359, gb360) _ ⟨hHeld, (by (with_reducible repeat (first | refine blk_drewN ?_ _ | refine blk_drew ?_ | refine blk_alloc ?_ _)); exact BK359.out), (by (with_reducible repeat (first | refine blk_drewN ?_ _ | refine blk_drew ?_ | refine blk_alloc ?_ _)); exact BK360.out), GW359.out, GE359.out, NB360_359.out, NB359_360.out, GW360.out, GE360.out, (by repeat (first | (with_reducible first | exact HB.out | apply below_alloc | apply pw_below_drewN | apply below_drew1 | refine below_set ?_ GE359.out | refine below_set ?_ GE360.out) | exact HB.out))⟩)
             ·skip
              refine box_step ?hg (N := 9) ?hd (cs := #[.int .i64 0, .int .i64 0]) (t := 54) ?hr ?_; (case hd => rfl); (case hg => rfl); (case hr => first | (go_simp; done) | (go_simp; rfl))
              intro gb360 hg w41 hbox hb
              have n0_ := Aside0.mk (below_step (by repeat (first | (with_reducible first | exact HB.out | apply below_alloc | apply pw_below_drewN | apply below_drew1) | exact HB.out)) hb)
              have n1_ := Aside0.mk (hbox)
              have n2_ := Aside0.mk ((by rw [hg]; exact (below_size (by repeat (first | (with_reducible first | exact HB.out | apply below_alloc | apply pw_below_drewN | apply below_drew1) | exact HB.out))) : w.heap.size ≤ gb360))
              have n3_ := Aside0.mk ((by rw [hg]; exact (below_size (by repeat (first | (with_reducible first | exact HB.out | apply below_alloc | apply pw_below_drewN | apply below_drew1) | exact HB.out))) : w.heap.size ≤ gb360))
              clear HB
              have HB := n0_
              have BK360 := n1_
              have GW360 := n2_
              have GE360 := n3_
              clear n0_ n1_ n2_ n3_
              clear hb hbox hg
              refine hK.out _ _ ⟨((HB.out.cell (World.block_lt_of_cell? w _ hw357_0)).trans hw357_0), ((HB.out.cell (World.block_lt_of_cell? w _ hw357_1)).trans hw357_1), ((HB.out.cell (World.block_lt_of_cell? w _ hw358_0)).trans hw358_0), ((HB.out.cell (World.block_lt_of_cell? w _ hw358_1)).trans hw358_1)⟩ (fun hHeld => ?_)
              clear hK K
              refine norm_ (a' := ?_) ?_ ?_
              rotate_left
              ·show Act.put _ (some 9) _ = _
               simp only [Act.put, List.setIfInBounds_toArray, List.set_cons_zero, List.set_cons_succ, i64_w, i32_w]
               rfl
              refine one_ (i := 9) (N := some 8) #[true, true, true, true, true, true, true, true, true, true, true, false, false] rfl rfl (one_of HT_.out (by kernel_rfl)) (by decide) (fun K hK => ?_)
              refine box_step ?hg (N := 8) ?hd (cs := #[.int .i64 0, .int .i64 0]) (t := 54) ?hr ?_; (case hd => rfl); (case hg => rfl); (case hr => first | (go_simp; done) | (go_simp; rfl))
              intro gb359 hg w42 hbox hb
              have n0_ := Aside0.mk (blk_below (g := gb360) (o := .cells #[.int .i64 0, .int .i64 0] 54 (0, 0)) (by (with_reducible repeat (first | refine blk_drewN ?_ _ | refine blk_drew ?_ | refine blk_alloc ?_ _)); exact BK360.out) hb)
              have n1_ := Aside0.mk (below_step (by repeat (first | (with_reducible first | exact HB.out | apply below_alloc | apply pw_below_drewN | apply below_drew1 | refine below_set ?_ GE360.out) | exact HB.out)) hb)
              have n2_ := Aside0.mk (hbox)
              have n3_ := Aside0.mk ((by rw [hg]; exact (below_size (by repeat (first | (with_reducible first | exact HB.out | apply below_alloc | apply pw_below_drewN | apply below_drew1 | refine below_set ?_ GE360.out) | exact HB.out))) : w.heap.size ≤ gb359))
              have n4_ := Aside0.mk ((by rw [hg]; exact (below_size (by repeat (first | (with_reducible first | exact HB.out | apply below_alloc | apply pw_below_drewN | apply below_drew1 | refine below_set ?_ GE360.out) | exact HB.out))) : w.heap.size ≤ gb359))
              have n5_ := Aside0.mk ((by rw [hg]; exact Nat.ne_of_lt (blk_lt (g := gb360) (o := .cells #[.int .i64 0, .int .i64 0] 54 (0, 0)) (by (with_reducible repeat (first | refine blk_drewN ?_ _ | refine blk_drew ?_ | refine blk_alloc ?_ _)); exact BK360.out)) : gb360 ≠ gb359))
              have n6_ := Aside0.mk ((by rw [hg]; exact Nat.ne_of_gt (blk_lt (g := gb360) (o := .cells #[.int .i64 0, .int .i64 0] 54 (0, 0)) (by (with_reducible repeat (first | refine blk_drewN ?_ _ | refine blk_drew ?_ | refine blk_alloc ?_ _)); exact BK360.out)) : gb359 ≠ gb360))
              clear BK360
              clear HB
              have BK360 := n0_
              have HB := n1_
              have BK359 := n2_
              have GW359 := n3_
              have GE359 := n4_
              have NB360_359 := n5_
              have NB359_360 := n6_
              clear n0_ n1_ n2_ n3_ n4_ n5_ n6_
              clear hb hbox hg
              refine hK.out _ _ ⟨((HB.out.cell (World.block_lt_of_cell? w _ hw357_0)).trans hw357_0), ((HB.out.cell (World.block_lt_of_cell? w _ hw357_1)).trans hw357_1), ((HB.out.cell (World.block_lt_of_cell? w _ hw358_0)).trans hw358_0), ((HB.out.cell (World.block_lt_of_cell? w _ hw358_1)).trans hw358_1)⟩ (fun hHeld => ?_)
              clear hK K
              refine norm_ (a' := ?_) ?_ ?_
              rotate_left
              ·show Act.put _ (some 8) _ = _
               simp only [Act.put, List.setIfInBounds_toArray, List.set_cons_zero, List.set_cons_succ, i64_w, i32_w]
               rfl
              exact norm_ (by simp only [putAll, Act.put, List.setIfInBounds_toArray, List.set_cons_zero, List.set_cons_succ]) (hCont (gb359, gb360) _ ⟨hHeld, (by (with_reducible repeat (first | refine blk_drewN ?_ _ | refine blk_drew ?_ | refine blk_alloc ?_ _)); exact BK359.out), (by (with_reducible repeat (first | refine blk_drewN ?_ _ | refine blk_drew ?_ | refine blk_alloc ?_ _)); exact BK360.out), GW359.out, GE359.out, NB360_359.out, NB359_360.out, GW360.out, GE360.out, (by repeat (first | (with_reducible first | exact HB.out | apply below_alloc | apply pw_below_drewN | apply below_drew1 | refine below_set ?_ GE360.out | refine below_set ?_ GE359.out) | exact HB.out))⟩)
            rintro ⟨gb359, gb360⟩ w43 ⟨hS_, h0_, h1_, h2_, h3_, h4_, h5_, h6_, h7_, h8_⟩
            have n0_ : Aside0 (w43.heap[gb359]? = some (.cells #[.int .i64 0, .int .i64 0] 54 (0, 0))) := ⟨h0_⟩
            have n1_ : Aside0 (w43.heap[gb360]? = some (.cells #[.int .i64 0, .int .i64 0] 54 (0, 0))) := ⟨h1_⟩
            have n2_ : Aside0 (w.heap.size ≤ gb359) := ⟨h2_⟩
            have n3_ : Aside0 (w.heap.size ≤ gb359) := ⟨h3_⟩
            have n4_ : Aside0 (gb360 ≠ gb359) := ⟨h4_⟩
            have n5_ : Aside0 (gb359 ≠ gb360) := ⟨h5_⟩
            have n6_ : Aside0 (w.heap.size ≤ gb360) := ⟨h6_⟩
            have n7_ : Aside0 (w.heap.size ≤ gb360) := ⟨h7_⟩
            have n8_ : Aside0 (Below w.heap.size w w43) := ⟨h8_⟩
            clear HB
            clear h0_ h1_ h2_ h3_ h4_ h5_ h6_ h7_ h8_
            have BK359 := n0_
            have BK360 := n1_
            have GW359 := n2_
            have GE359 := n3_
            have NB360_359 := n4_
            have NB359_360 := n5_
            have GW360 := n6_
            have GE360 := n7_
            have HB := n8_
            clear n0_ n1_ n2_ n3_ n4_ n5_ n6_ n7_ n8_
            have hHeld : w43.cell? (ad357.add ((a2).toNat * 2)) = some (.int .i64 ((rd_T54 l1 a2).f0)) ∧ w43.cell? ⟨(ad357.add ((a2).toNat * 2)).block, (ad357.add ((a2).toNat * 2)).off + 1, none⟩ = some (.int .i64 ((rd_T54 l1 a2).f1)) ∧ w43.cell? (ad357.add (((ji20)).toNat * 2)) = some (.int .i64 ((rd_T54 l1 (ji20)).f0)) ∧ w43.cell? ⟨(ad357.add (((ji20)).toNat * 2)).block, (ad357.add (((ji20)).toNat * 2)).off + 1, none⟩ = some (.int .i64 ((rd_T54 l1 (ji20)).f1)) := hS_
            refine norm_ (a' := ?_) ?_ ?_
            rotate_left
            ·simp only [putAll, Act.put, List.setIfInBounds_toArray, List.set_cons_zero, List.set_cons_succ]
             rfl
            refine one_ (i := 11) (N := none) #[true, true, true, true, true, true, true, true, true, true, true, true, false] rfl rfl (one_of HT_.out (by kernel_rfl)) (by decide) (fun K hK => ?_)
            have hs44 : w43.cell? ⟨gb359, 0, none⟩ = some (.int .i64 0) := (blk_cell BK359.out 0).trans rfl
            have hfs44 := blk_frozen BK359.out 0
            have hns44_1 := NB360_359.out
            have hms44_1 := NB359_360.out
            have hs45 : w43.cell? ⟨gb359, 1, none⟩ = some (.int .i64 0) := (blk_cell BK359.out 1).trans rfl
            have hfs45 := blk_frozen BK359.out 1
            have hns45_1 := NB360_359.out
            have hms45_1 := NB359_360.out
            refine skip_ (w1 := ?_) (by rfl) rfl ?_ ?_
            rotate_left
            ·go_simp
             rfl
            refine hK.out _ _ ⟨((cell_far (p := ⟨gb359, _, none⟩) (by first | exact Nat.ne_of_lt (Nat.lt_of_lt_of_le (by have := World.block_lt_of_cell? _ _ hw357_0; first | rwa [add_block] at this | exact this) GW359.out) | (rw [add_block]; exact Nat.ne_of_lt (Nat.lt_of_lt_of_le (by have := World.block_lt_of_cell? _ _ hw357_0; first | rwa [add_block] at this | exact this) GW359.out)) | (show (Addr.add _ _).block ≠ _; rw [add_block]; exact Nat.ne_of_lt (Nat.lt_of_lt_of_le (by have := World.block_lt_of_cell? _ _ hw357_0; first | rwa [add_block] at this | exact this) GW359.out)) | (dsimp only; exact Nat.ne_of_lt (Nat.lt_of_lt_of_le (by have := World.block_lt_of_cell? _ _ hw357_0; first | rwa [add_block] at this | exact this) GW359.out))) _).trans (((cell_far (p := ⟨gb359, _, none⟩) (by first | exact Nat.ne_of_lt (Nat.lt_of_lt_of_le (by have := World.block_lt_of_cell? _ _ hw357_0; first | rwa [add_block] at this | exact this) GW359.out) | (rw [add_block]; exact Nat.ne_of_lt (Nat.lt_of_lt_of_le (by have := World.block_lt_of_cell? _ _ hw357_0; first | rwa [add_block] at this | exact this) GW359.out)) | (show (Addr.add _ _).block ≠ _; rw [add_block]; exact Nat.ne_of_lt (Nat.lt_of_lt_of_le (by have := World.block_lt_of_cell? _ _ hw357_0; first | rwa [add_block] at this | exact this) GW359.out)) | (dsimp only; exact Nat.ne_of_lt (Nat.lt_of_lt_of_le (by have := World.block_lt_of_cell? _ _ hw357_0; first | rwa [add_block] at this | exact this) GW359.out))) _).trans (hHeld.1)))), ((cell_far (p := ⟨gb359, _, none⟩) (by first | exact Nat.ne_of_lt (Nat.lt_of_lt_of_le (by have := World.block_lt_of_cell? _ _ hw357_1; first | rwa [add_block] at this | exact this) GW359.out) | (rw [add_block]; exact Nat.ne_of_lt (Nat.lt_of_lt_of_le (by have := World.block_lt_of_cell? _ _ hw357_1; first | rwa [add_block] at this | exact this) GW359.out)) | (show (Addr.add _ _).block ≠ _; rw [add_block]; exact Nat.ne_of_lt (Nat.lt_of_lt_of_le (by have := World.block_lt_of_cell? _ _ hw357_1; first | rwa [add_block] at this | exact this) GW359.out)) | (dsimp only; exact Nat.ne_of_lt (Nat.lt_of_lt_of_le (by have := World.block_lt_of_cell? _ _ hw357_1; first | rwa [add_block] at this | exact this) GW359.out))) _).trans (((cell_far (p := ⟨gb359, _, none⟩) (by first | exact Nat.ne_of_lt (Nat.lt_of_lt_of_le (by have := World.block_lt_of_cell? _ _ hw357_1; first | rwa [add_block] at this | exact this) GW359.out) | (rw [add_block]; exact Nat.ne_of_lt (Nat.lt_of_lt_of_le (by have := World.block_lt_of_cell? _ _ hw357_1; first | rwa [add_block] at this | exact this) GW359.out)) | (show (Addr.add _ _).block ≠ _; rw [add_block]; exact Nat.ne_of_lt (Nat.lt_of_lt_of_le (by have := World.block_lt_of_cell? _ _ hw357_1; first | rwa [add_block] at this | exact this) GW359.out)) | (dsimp only; exact Nat.ne_of_lt (Nat.lt_of_lt_of_le (by have := World.block_lt_of_cell? _ _ hw357_1; first | rwa [add_block] at this | exact this) GW359.out))) _).trans (hHeld.2.1)))), ((cell_far (p := ⟨gb359, _, none⟩) (by first | exact Nat.ne_of_lt (Nat.lt_of_lt_of_le (by have := World.block_lt_of_cell? _ _ hw358_0; first | rwa [add_block] at this | exact this) GW359.out) | (rw [add_block]; exact Nat.ne_of_lt (Nat.lt_of_lt_of_le (by have := World.block_lt_of_cell? _ _ hw358_0; first | rwa [add_block] at this | exact this) GW359.out)) | (show (Addr.add _ _).block ≠ _; rw [add_block]; exact Nat.ne_of_lt (Nat.lt_of_lt_of_le (by have := World.block_lt_of_cell? _ _ hw358_0; first | rwa [add_block] at this | exact this) GW359.out)) | (dsimp only; exact Nat.ne_of_lt (Nat.lt_of_lt_of_le (by have := World.block_lt_of_cell? _ _ hw358_0; first | rwa [add_block] at this | exact this) GW359.out))) _).trans (((cell_far (p := ⟨gb359, _, none⟩) (by first | exact Nat.ne_of_lt (Nat.lt_of_lt_of_le (by have := World.block_lt_of_cell? _ _ hw358_0; first | rwa [add_block] at this | exact this) GW359.out) | (rw [add_block]; exact Nat.ne_of_lt (Nat.lt_of_lt_of_le (by have := World.block_lt_of_cell? _ _ hw358_0; first | rwa [add_block] at this | exact this) GW359.out)) | (show (Addr.add _ _).block ≠ _; rw [add_block]; exact Nat.ne_of_lt (Nat.lt_of_lt_of_le (by have := World.block_lt_of_cell? _ _ hw358_0; first | rwa [add_block] at this | exact this) GW359.out)) | (dsimp only; exact Nat.ne_of_lt (Nat.lt_of_lt_of_le (by have := World.block_lt_of_cell? _ _ hw358_0; first | rwa [add_block] at this | exact this) GW359.out))) _).trans (hHeld.2.2.1)))), ((cell_far (p := ⟨gb359, _, none⟩) (by first | exact Nat.ne_of_lt (Nat.lt_of_lt_of_le (by have := World.block_lt_of_cell? _ _ hw358_1; first | rwa [add_block] at this | exact this) GW359.out) | (rw [add_block]; exact Nat.ne_of_lt (Nat.lt_of_lt_of_le (by have := World.block_lt_of_cell? _ _ hw358_1; first | rwa [add_block] at this | exact this) GW359.out)) | (show (Addr.add _ _).block ≠ _; rw [add_block]; exact Nat.ne_of_lt (Nat.lt_of_lt_of_le (by have := World.block_lt_of_cell? _ _ hw358_1; first | rwa [add_block] at this | exact this) GW359.out)) | (dsimp only; exact Nat.ne_of_lt (Nat.lt_of_lt_of_le (by have := World.block_lt_of_cell? _ _ hw358_1; first | rwa [add_block] at this | exact this) GW359.out))) _).trans (((cell_far (p := ⟨gb359, _, none⟩) (by first | exact Nat.ne_of_lt (Nat.lt_of_lt_of_le (by have := World.block_lt_of_cell? _ _ hw358_1; first | rwa [add_block] at this | exact this) GW359.out) | (rw [add_block]; exact Nat.ne_of_lt (Nat.lt_of_lt_of_le (by have := World.block_lt_of_cell? _ _ hw358_1; first | rwa [add_block] at this | exact this) GW359.out)) | (show (Addr.add _ _).block ≠ _; rw [add_block]; exact Nat.ne_of_lt (Nat.lt_of_lt_of_le (by have := World.block_lt_of_cell? _ _ hw358_1; first | rwa [add_block] at this | exact this) GW359.out)) | (dsimp only; exact Nat.ne_of_lt (Nat.lt_of_lt_of_le (by have := World.block_lt_of_cell? _ _ hw358_1; first | rwa [add_block] at this | exact this) GW359.out))) _).trans (hHeld.2.2.2))))⟩ (fun hHeld => ?_)
            clear hK K
            refine one_ (i := 12) (N := none) #[true, true, true, true, true, true, true, true, true, true, true, true, true] rfl rfl (one_of HT_.out (by kernel_rfl)) (by decide) (fun K hK => ?_)
            have hs46 : w43.cell? ⟨gb360, 0, none⟩ = some (.int .i64 0) := (blk_cell BK360.out 0).trans rfl
            have hfs46 := blk_frozen BK360.out 0
            have hns46_0 := NB359_360.out
            have hms46_0 := NB360_359.out
            have hs47 : w43.cell? ⟨gb360, 1, none⟩ = some (.int .i64 0) := (blk_cell BK360.out 1).trans rfl
            have hfs47 := blk_frozen BK360.out 1
            have hns47_0 := NB359_360.out
            have hms47_0 := NB360_359.out
            refine skip_ (w1 := ?_) (by rfl) rfl ?_ ?_
            rotate_left
            ·go_simp
             rfl
            refine hK.out _ _ ⟨((cell_far (p := ⟨gb360, _, none⟩) (by first | exact Nat.ne_of_lt (Nat.lt_of_lt_of_le (by have := World.block_lt_of_cell? _ _ hw357_0; first | rwa [add_block] at this | exact this) GW360.out) | (rw [add_block]; exact Nat.ne_of_lt (Nat.lt_of_lt_of_le (by have := World.block_lt_of_cell? _ _ hw357_0; first | rwa [add_block] at this | exact this) GW360.out)) | (show (Addr.add _ _).block ≠ _; rw [add_block]; exact Nat.ne_of_lt (Nat.lt_of_lt_of_le (by have := World.block_lt_of_cell? _ _ hw357_0; first | rwa [add_block] at this | exact this) GW360.out)) | (dsimp only; exact Nat.ne_of_lt (Nat.lt_of_lt_of_le (by have := World.block_lt_of_cell? _ _ hw357_0; first | rwa [add_block] at this | exact this) GW360.out))) _).trans (((cell_far (p := ⟨gb360, _, none⟩) (by first | exact Nat.ne_of_lt (Nat.lt_of_lt_of_le (by have := World.block_lt_of_cell? _ _ hw357_0; first | rwa [add_block] at this | exact this) GW360.out) | (rw [add_block]; exact Nat.ne_of_lt (Nat.lt_of_lt_of_le (by have := World.block_lt_of_cell? _ _ hw357_0; first | rwa [add_block] at this | exact this) GW360.out)) | (show (Addr.add _ _).block ≠ _; rw [add_block]; exact Nat.ne_of_lt (Nat.lt_of_lt_of_le (by have := World.block_lt_of_cell? _ _ hw357_0; first | rwa [add_block] at this | exact this) GW360.out)) | (dsimp only; exact Nat.ne_of_lt (Nat.lt_of_lt_of_le (by have := World.block_lt_of_cell? _ _ hw357_0; first | rwa [add_block] at this | exact this) GW360.out))) _).trans (hHeld.1)))), ((cell_far (p := ⟨gb360, _, none⟩) (by first | exact Nat.ne_of_lt (Nat.lt_of_lt_of_le (by have := World.block_lt_of_cell? _ _ hw357_1; first | rwa [add_block] at this | exact this) GW360.out) | (rw [add_block]; exact Nat.ne_of_lt (Nat.lt_of_lt_of_le (by have := World.block_lt_of_cell? _ _ hw357_1; first | rwa [add_block] at this | exact this) GW360.out)) | (show (Addr.add _ _).block ≠ _; rw [add_block]; exact Nat.ne_of_lt (Nat.lt_of_lt_of_le (by have := World.block_lt_of_cell? _ _ hw357_1; first | rwa [add_block] at this | exact this) GW360.out)) | (dsimp only; exact Nat.ne_of_lt (Nat.lt_of_lt_of_le (by have := World.block_lt_of_cell? _ _ hw357_1; first | rwa [add_block] at this | exact this) GW360.out))) _).trans (((cell_far (p := ⟨gb360, _, none⟩) (by first | exact Nat.ne_of_lt (Nat.lt_of_lt_of_le (by have := World.block_lt_of_cell? _ _ hw357_1; first | rwa [add_block] at this | exact this) GW360.out) | (rw [add_block]; exact Nat.ne_of_lt (Nat.lt_of_lt_of_le (by have := World.block_lt_of_cell? _ _ hw357_1; first | rwa [add_block] at this | exact this) GW360.out)) | (show (Addr.add _ _).block ≠ _; rw [add_block]; exact Nat.ne_of_lt (Nat.lt_of_lt_of_le (by have := World.block_lt_of_cell? _ _ hw357_1; first | rwa [add_block] at this | exact this) GW360.out)) | (dsimp only; exact Nat.ne_of_lt (Nat.lt_of_lt_of_le (by have := World.block_lt_of_cell? _ _ hw357_1; first | rwa [add_block] at this | exact this) GW360.out))) _).trans (hHeld.2.1)))), ((cell_far (p := ⟨gb360, _, none⟩) (by first | exact Nat.ne_of_lt (Nat.lt_of_lt_of_le (by have := World.block_lt_of_cell? _ _ hw358_0; first | rwa [add_block] at this | exact this) GW360.out) | (rw [add_block]; exact Nat.ne_of_lt (Nat.lt_of_lt_of_le (by have := World.block_lt_of_cell? _ _ hw358_0; first | rwa [add_block] at this | exact this) GW360.out)) | (show (Addr.add _ _).block ≠ _; rw [add_block]; exact Nat.ne_of_lt (Nat.lt_of_lt_of_le (by have := World.block_lt_of_cell? _ _ hw358_0; first | rwa [add_block] at this | exact this) GW360.out)) | (dsimp only; exact Nat.ne_of_lt (Nat.lt_of_lt_of_le (by have := World.block_lt_of_cell? _ _ hw358_0; first | rwa [add_block] at this | exact this) GW360.out))) _).trans (((cell_far (p := ⟨gb360, _, none⟩) (by first | exact Nat.ne_of_lt (Nat.lt_of_lt_of_le (by have := World.block_lt_of_cell? _ _ hw358_0; first | rwa [add_block] at this | exact this) GW360.out) | (rw [add_block]; exact Nat.ne_of_lt (Nat.lt_of_lt_of_le (by have := World.block_lt_of_cell? _ _ hw358_0; first | rwa [add_block] at this | exact this) GW360.out)) | (show (Addr.add _ _).block ≠ _; rw [add_block]; exact Nat.ne_of_lt (Nat.lt_of_lt_of_le (by have := World.block_lt_of_cell? _ _ hw358_0; first | rwa [add_block] at this | exact this) GW360.out)) | (dsimp only; exact Nat.ne_of_lt (Nat.lt_of_lt_of_le (by have := World.block_lt_of_cell? _ _ hw358_0; first | rwa [add_block] at this | exact this) GW360.out))) _).trans (hHeld.2.2.1)))), ((cell_far (p := ⟨gb360, _, none⟩) (by first | exact Nat.ne_of_lt (Nat.lt_of_lt_of_le (by have := World.block_lt_of_cell? _ _ hw358_1; first | rwa [add_block] at this | exact this) GW360.out) | (rw [add_block]; exact Nat.ne_of_lt (Nat.lt_of_lt_of_le (by have := World.block_lt_of_cell? _ _ hw358_1; first | rwa [add_block] at this | exact this) GW360.out)) | (show (Addr.add _ _).block ≠ _; rw [add_block]; exact Nat.ne_of_lt (Nat.lt_of_lt_of_le (by have := World.block_lt_of_cell? _ _ hw358_1; first | rwa [add_block] at this | exact this) GW360.out)) | (dsimp only; exact Nat.ne_of_lt (Nat.lt_of_lt_of_le (by have := World.block_lt_of_cell? _ _ hw358_1; first | rwa [add_block] at this | exact this) GW360.out))) _).trans (((cell_far (p := ⟨gb360, _, none⟩) (by first | exact Nat.ne_of_lt (Nat.lt_of_lt_of_le (by have := World.block_lt_of_cell? _ _ hw358_1; first | rwa [add_block] at this | exact this) GW360.out) | (rw [add_block]; exact Nat.ne_of_lt (Nat.lt_of_lt_of_le (by have := World.block_lt_of_cell? _ _ hw358_1; first | rwa [add_block] at this | exact this) GW360.out)) | (show (Addr.add _ _).block ≠ _; rw [add_block]; exact Nat.ne_of_lt (Nat.lt_of_lt_of_le (by have := World.block_lt_of_cell? _ _ hw358_1; first | rwa [add_block] at this | exact this) GW360.out)) | (dsimp only; exact Nat.ne_of_lt (Nat.lt_of_lt_of_le (by have := World.block_lt_of_cell? _ _ hw358_1; first | rwa [add_block] at this | exact this) GW360.out))) _).trans (hHeld.2.2.2))))⟩ (fun hHeld => ?_)
            clear hK K
            refine done_ (done_of HT_.out (by kernel_rfl)) ?_
            have hnb48 := NB359_360.out
            have hnc48 := NB360_359.out
            have hcz49_0 : w43.cell? ⟨gb359, 0, none⟩ = some (.int .i64 0) := (blk_cell BK359.out 0).trans rfl
            have hcz49_1 : w43.cell? ⟨gb359, 1, none⟩ = some (.int .i64 0) := (blk_cell BK359.out 1).trans rfl
            have hfz49_0 := blk_frozen BK359.out 0
            have hfz49_1 := blk_frozen BK359.out 1
            have hcz50_0 : w43.cell? ⟨gb360, 0, none⟩ = some (.int .i64 0) := (blk_cell BK360.out 0).trans rfl
            have hcz50_1 : w43.cell? ⟨gb360, 1, none⟩ = some (.int .i64 0) := (blk_cell BK360.out 1).trans rfl
            have hfz50_0 := blk_frozen BK360.out 0
            have hfz50_1 := blk_frozen BK360.out 1
            try go_wp2
            go_ret2
            exact ⟨by first | rfl | (simp [errW_none, errW_some] <;> rfl) | (simp only [← hji12, ← hji20, ← hji23]; first | rfl | (simp [errW_none, errW_some] <;> rfl)) | (simp [*, errW_none, errW_some] <;> rfl), by repeat (first | (with_reducible first | exact HB.out | apply below_alloc | apply pw_below_drewN | apply below_drew1 | refine below_set ?_ GE359.out | refine below_set ?_ GE360.out) | exact HB.out)⟩
          ·rw [if_neg c22] at H
           exact absurd H (by simp)
         ·rw [if_neg c21] at H
          exact absurd H (by simp)
        ·rw [if_neg c19] at H
         exact absurd H (by simp)
      ·rw [if_neg c14] at H
       exact absurd H (by simp)
     ·rw [if_neg c13] at H
      exact absurd H (by simp)
    ·rw [if_neg c9] at H
     exact absurd H (by simp)
   ·rw [if_neg c8] at H
    exact absurd H (by simp)
end Go.Proofs.YtckmmpknaengjaaDoor.Px
end
section
namespace Go.Proofs.YtckmmpknaengjaaDoor.Giv
set_option linter.unusedVariables false
set_option linter.unusedSimpArgs false
open Go.RowKit Go.Proofs.YtckmmpknaengjaaDoorW.PrintWords Go.Proofs.YtckmmpknaengjaaDoorW.PrintLast Go.Proofs.YtckmmpknaengjaaDoorW.PrintMore Go.Proofs.YtckmmpknaengjaaDoor.Px
def pushT (s : ByteArray) (i : Nat) : ByteArray := strOfNums (((bytesOf s).set i (bt s ((i : Int) + 1))).set (i + 1) (bt s (i : Int)))
def impl_PushCorner.f (k : Nat) (a0 : ByteArray) (a1 : Int) : Option (ByteArray × Bool × Bool) := (impl_readPath.f k a0).bind fun t => if t.2 = true then ((impl_corner.f a0 t.1 a1).bind fun u => if u.1 = true then (if 0 ≤ a1 ∧ a1 + 1 < (a0.size : Int) ∧ a0.size ≤ 1000000 then some (pushT a0 a1.toNat, u.2, true) else none) else some (⟨#[]⟩, false, false)) else some (⟨#[]⟩, false, false)
set_option maxHeartbeats 4000000 in
theorem impl_PushCorner.calls (k : Nat) (a0 : ByteArray) (a1 : Int) (r1 : ByteArray) (r2 : Bool) (r3 : Bool) (w : World) (h : impl_PushCorner.f k a0 a1 = some (r1, r2, r3)) :
    Calls Tryd.prog 33 #[.string a0, .int .i64 a1] w fun e w' => e = .returned (.tuple #[.string r1, .bool r2, .bool r3]) ∧ Below w.heap.size w w' := by
  unfold impl_PushCorner.f at h
  obtain ⟨⟨ps, ok⟩, h1, h⟩ := Option.bind_eq_some_iff.1 h
  cases ok with
  | false =>
    simp only [Bool.false_eq_true, if_false, Option.some.injEq, Prod.mk.injEq] at h
    obtain ⟨rfl, rfl, rfl⟩ := h
    go_enter Tryd.func33, Tryd.ntmps33
    go_wp2_with (first | (go_at_call 42; refine (impl_readPath.calls k a0 ps false _ h1).mono ?_; rintro e w1 ⟨v0, rfl, ho, hb⟩))
    go_ret3
    exact ⟨rfl, hb⟩
  | true =>
    simp only [if_true] at h
    obtain ⟨⟨is, free⟩, h2, h⟩ := Option.bind_eq_some_iff.1 h
    cases is with
    | false =>
      simp only [Bool.false_eq_true, if_false, Option.some.injEq, Prod.mk.injEq] at h
      obtain ⟨rfl, rfl, rfl⟩ := h
      go_enter Tryd.func33, Tryd.ntmps33
      go_wp2_with (first | (go_at_call 42; refine (impl_readPath.calls k a0 ps true _ h1).mono ?_; rintro e w1 ⟨v0, rfl, ho, hb⟩; obtain ⟨A, c, rfl, hl, hC⟩ := Kd.R_reads ho; clear ho) | (go_at_call 50; refine (impl_corner.calls a0 A c ps a1 false free _ hC hl h2).mono ?_; rintro e w2 ⟨rfl, hb2⟩))
      go_ret3
      exact ⟨rfl, below_step hb hb2⟩
    | true =>
      simp only [if_true] at h
      split at h
      · rename_i hc
        simp only [Option.some.injEq, Prod.mk.injEq] at h
        obtain ⟨rfl, rfl, rfl⟩ := h
        obtain ⟨i, rfl⟩ := Int.eq_ofNat_of_zero_le hc.1
        have hn : i + 1 < a0.size := by omega
        have hs : a0.size ≤ 1000000 := hc.2.2
        clear hc
        rw [Int.toNat_natCast]
        have hlen : (bytesOf a0).length = a0.size := bytesOf_length a0
        go_enter Tryd.func33, Tryd.ntmps33
        go_wp2_with (first | (go_at_call 42; refine (impl_readPath.calls k a0 ps true _ h1).mono ?_; rintro e w1 ⟨v0, rfl, ho, hb⟩; obtain ⟨A, c, rfl, hl, hC⟩ := Kd.R_reads ho; clear ho) | (go_at_call 50; refine (impl_corner.calls a0 A c ps (i : Int) true free _ hC hl h2).mono ?_; rintro e w2 ⟨rfl, hb2⟩; obtain ⟨z, cap, w3, hconv, hrow, hb3⟩ := conv_bytes (P := Tryd.prog) w2 9 57 5 a0 Tryd.underlying9 Tryd.underlying57 Tryd.underlying5))
        have hw : wrap64 ((i : Int) + 1) = ((i + 1 : Nat) : Int) := by unfold wrap64; omega
        have q0 : (0 ≤ ((i : Nat) : Int)) = True := eq_true (by omega)
        have q1 : (((i : Nat) : Int) < (a0.size : Int)) = True := eq_true (by omega)
        have q2 : (0 ≤ ((i + 1 : Nat) : Int)) = True := eq_true (by omega)
        have q3 : (((i + 1 : Nat) : Int) < (a0.size : Int)) = True := eq_true (by omega)
        have q4 : (i < a0.size) = True := eq_true (by omega)
        have q5 : (i + 1 < a0.size) = True := eq_true (by omega)
        have c0 : w3.cell? ⟨w2.heap.size, i, none⟩ = some (.int .u8 (bt a0 (i : Int))) := by rw [hrow.cell i (by omega)]; exact congrArg (fun x => some (Value.int .u8 x)) (rd_bytesOf a0 (i : Int))
        have c1 : w3.cell? ⟨w2.heap.size, i + 1, none⟩ = some (.int .u8 (bt a0 ((i + 1 : Nat) : Int))) := by rw [hrow.cell (i + 1) (by omega)]; exact congrArg (fun x => some (Value.int .u8 x)) (rd_bytesOf a0 ((i + 1 : Nat) : Int))
        have z0 := hrow.frozen i (by omega)
        have z1 := hrow.frozen (i + 1) (by omega)
        go_region
        have hB3 := below_step (below_step hb hb2) hb3
        have hg : w.heap.size ≤ w2.heap.size := below_size (below_step hb hb2)
        have hrow4 : BRow ((w3.setCell ⟨w2.heap.size, i, none⟩ (.int .u8 (bt a0 ((i : Int) + 1)))).setCell ⟨w2.heap.size, i + 1, none⟩ (.int .u8 (bt a0 (i : Int)))).drew w2.heap.size 5 (((bytesOf a0).set i (bt a0 ((i : Int) + 1))).set (i + 1) (bt a0 (i : Int))) z :=
          ((hrow.set i (by omega) _).set (i + 1) (by rw [List.length_set]; omega) _).drew
        have hB4 : Below w.heap.size w ((w3.setCell ⟨w2.heap.size, i, none⟩ (.int .u8 (bt a0 ((i : Int) + 1)))).setCell ⟨w2.heap.size, i + 1, none⟩ (.int .u8 (bt a0 (i : Int)))).drew := below_drew1 (below_set (below_set hB3 hg) hg)
        have hback := hrow4.string (P := Tryd.prog) 57 9 a0.size cap (by rw [List.length_set, List.length_set, hlen]) (by rw [List.length_set, List.length_set]; omega) Tryd.underlying57 Tryd.underlying5 Tryd.underlying9
        generalize ((w3.setCell ⟨w2.heap.size, i, none⟩ (.int .u8 (bt a0 ((i : Int) + 1)))).setCell ⟨w2.heap.size, i + 1, none⟩ (.int .u8 (bt a0 (i : Int)))).drew = w4 at hB4 hback ⊢
        clear hrow hrow4
        go_wp2
        go_ret3
        exact ⟨rfl, hB4⟩
      · cases h
end Go.Proofs.YtckmmpknaengjaaDoor.Giv
end
section
namespace Go.Proofs.YtckmmpknaengjaaDoor.Px
end Go.Proofs.YtckmmpknaengjaaDoor.Px
namespace Go.Proofs.YtckmmpknaengjaaDoor.Giv
end Go.Proofs.YtckmmpknaengjaaDoor.Giv
namespace Go.Proofs.YtckmmpknaengjaaDoor.Px
open Go.Proofs.YtckmmpknaengjaaDoor.Giv
open Go.RowKit Go.Proofs.YtckmmpknaengjaaDoorW.PrintWords Go.Proofs.YtckmmpknaengjaaDoorW.PrintLast Go.Proofs.YtckmmpknaengjaaDoorW.PrintMore
attribute [local go_sem] max2_int min2_int max_two min_two max_three min_three max_four min_four
set_option linter.unusedVariables false
set_option linter.unusedSimpArgs false
def spec_PushCorner.f (k : Nat) (a0 : ByteArray) (a1 : Int) : Option (ByteArray × Bool × Bool) := (spec_l10Corner.f k a0 a1).bind fun t287 => (if t287 = true then (if 0 ≤ a1 then (if a1 ≤ (a0.size : Int) then (if 0 ≤ (wrap64 (a1 + 1)) then (if (wrap64 (a1 + 1)) ≤ (wrap64 (a1 + 2)) then (if (wrap64 (a1 + 2)) ≤ (a0.size : Int) then (if (a1 : Int).toNat + (((wrap64 (a1 + 2)) : Int).toNat - ((wrap64 (a1 + 1)) : Int).toNat) ≤ 9223372036854775807 then (if a1 ≤ (wrap64 (a1 + 1)) then (if (wrap64 (a1 + 1)) ≤ (a0.size : Int) then (if (a1 : Int).toNat + ((((wrap64 (a1 + 2)) : Int).toNat - ((wrap64 (a1 + 1)) : Int).toNat)) + (((wrap64 (a1 + 1)) : Int).toNat - (a1 : Int).toNat) ≤ 9223372036854775807 then (if 0 ≤ (wrap64 (a1 + 2)) then (if (a1 : Int).toNat + ((((wrap64 (a1 + 2)) : Int).toNat - ((wrap64 (a1 + 1)) : Int).toNat)) + ((((wrap64 (a1 + 1)) : Int).toNat - (a1 : Int).toNat)) + (a0.size - ((wrap64 (a1 + 2)) : Int).toNat) ≤ 9223372036854775807 then ((spec_l10Free.f k a0 a1).bind fun t288 => (some ((((a0.extract 0 (a1 : Int).toNat) ++ (a0.extract ((wrap64 (a1 + 1)) : Int).toNat ((wrap64 (a1 + 2)) : Int).toNat)) ++ (a0.extract (a1 : Int).toNat ((wrap64 (a1 + 1)) : Int).toNat)) ++ (a0.extract ((wrap64 (a1 + 2)) : Int).toNat a0.size), t288, true))) else (none)) else (none)) else (none)) else (none)) else (none)) else (none)) else (none)) else (none)) else (none)) else (none)) else (none)) else (some ((⟨#[]⟩ : ByteArray), false, false)))
def spec_PushCorner.T3 : Bool × List (List Nat × List Nat) := (true, [([], []), ([], []), ([0, 1], [0, 1]), ([], []), ([], []), ([4], [4]), ([], []), ([6], [6]), ([3, 5, 7], [3, 5, 7]), ([2, 8], [2, 8]), ([], []), ([], []), ([], []), ([12], [12]), ([10, 11, 13], [10, 11, 13]), ([9, 14], [9, 14]), ([], []), ([], []), ([17], [17]), ([16, 18], [16, 18]), ([15, 19], [15, 19]), ([], []), ([], []), ([21, 22], [21, 22]), ([20, 23, 0, 1, 2, 3, 4, 5, 6, 7, 8, 9, 10, 11, 12, 13, 14, 15, 16, 17, 18, 19, 20], [20]), ([23, 24, 0, 1, 2, 3, 4, 5, 6, 7, 8, 9, 10, 11, 12, 13, 14, 15, 16, 17, 18, 19, 20, 21, 22, 23, 24], [23]), ([25, 0, 1, 2, 3, 4, 5, 6, 7, 8, 9, 10, 11, 12, 13, 14, 15, 16, 17, 18, 19, 20, 21, 22, 23, 24, 25], [])])
def spec_PushCorner.B3 : List Nat := [0, 0, 3, 0, 0, 16, 0, 64, 248, 511, 0, 0, 0, 4096, 15360, 32767, 0, 0, 131072, 458752, 1048575, 0, 0, 6291456, 16777215, 33554431, 67108863]
theorem spec_PushCorner.tab3 : rtab .any (opsOf Tryd.f32 3) = spec_PushCorner.T3 := by kernel_rfl
theorem spec_PushCorner.bits3 : waitsOk spec_PushCorner.T3.2 spec_PushCorner.B3 = true := by kernel_rfl
set_option maxHeartbeats 8000000 in
set_option maxRecDepth 100000 in
theorem spec_PushCorner.calls (k : Nat) (a0 : ByteArray) (a1 : Int) (r1 : ByteArray) (r2 : Bool) (r3 : Bool) (w : World) (h : spec_PushCorner.f k a0 a1 = some (r1, r2, r3)) :
  Calls Tryd.prog 32 #[.string a0, .int .i64 a1] w fun e w' => e = .returned (.tuple #[.string r1, .bool r2, .bool r3]) ∧ Below w.heap.size w w' := by
 have HB := Aside0.mk (Below.refl w.heap.size w)
 have H : ((spec_l10Corner.f k a0 a1).bind fun t287 => (if t287 = true then (if 0 ≤ a1 then (if a1 ≤ (a0.size : Int) then (if 0 ≤ (wrap64 (a1 + 1)) then (if (wrap64 (a1 + 1)) ≤ (wrap64 (a1 + 2)) then (if (wrap64 (a1 + 2)) ≤ (a0.size : Int) then (if (a1 : Int).toNat + (((wrap64 (a1 + 2)) : Int).toNat - ((wrap64 (a1 + 1)) : Int).toNat) ≤ 9223372036854775807 then (if a1 ≤ (wrap64 (a1 + 1)) then (if (wrap64 (a1 + 1)) ≤ (a0.size : Int) then (if (a1 : Int).toNat + ((((wrap64 (a1 + 2)) : Int).toNat - ((wrap64 (a1 + 1)) : Int).toNat)) + (((wrap64 (a1 + 1)) : Int).toNat - (a1 : Int).toNat) ≤ 9223372036854775807 then (if 0 ≤ (wrap64 (a1 + 2)) then (if (a1 : Int).toNat + ((((wrap64 (a1 + 2)) : Int).toNat - ((wrap64 (a1 + 1)) : Int).toNat)) + ((((wrap64 (a1 + 1)) : Int).toNat - (a1 : Int).toNat)) + (a0.size - ((wrap64 (a1 + 2)) : Int).toNat) ≤ 9223372036854775807 then ((spec_l10Free.f k a0 a1).bind fun t288 => (some ((((a0.extract 0 (a1 : Int).toNat) ++ (a0.extract ((wrap64 (a1 + 1)) : Int).toNat ((wrap64 (a1 + 2)) : Int).toNat)) ++ (a0.extract (a1 : Int).toNat ((wrap64 (a1 + 1)) : Int).toNat)) ++ (a0.extract ((wrap64 (a1 + 2)) : Int).toNat a0.size), t288, true))) else (none)) else (none)) else (none)) else (none)) else (none)) else (none)) else (none)) else (none)) else (none)) else (none)) else (none)) else (some ((⟨#[]⟩ : ByteArray), false, false)))) = some (r1, r2, r3) := h
 clear h
 replace H := Option.bind_eq_some_iff.mp H
 obtain ⟨t287, A30, H⟩ := H
 replace H : (if t287 = true then (if 0 ≤ a1 then (if a1 ≤ (a0.size : Int) then (if 0 ≤ (wrap64 (a1 + 1)) then (if (wrap64 (a1 + 1)) ≤ (wrap64 (a1 + 2)) then (if (wrap64 (a1 + 2)) ≤ (a0.size : Int) then (if (a1 : Int).toNat + (((wrap64 (a1 + 2)) : Int).toNat - ((wrap64 (a1 + 1)) : Int).toNat) ≤ 9223372036854775807 then (if a1 ≤ (wrap64 (a1 + 1)) then (if (wrap64 (a1 + 1)) ≤ (a0.size : Int) then (if (a1 : Int).toNat + ((((wrap64 (a1 + 2)) : Int).toNat - ((wrap64 (a1 + 1)) : Int).toNat)) + (((wrap64 (a1 + 1)) : Int).toNat - (a1 : Int).toNat) ≤ 9223372036854775807 then (if 0 ≤ (wrap64 (a1 + 2)) then (if (a1 : Int).toNat + ((((wrap64 (a1 + 2)) : Int).toNat - ((wrap64 (a1 + 1)) : Int).toNat)) + ((((wrap64 (a1 + 1)) : Int).toNat - (a1 : Int).toNat)) + (a0.size - ((wrap64 (a1 + 2)) : Int).toNat) ≤ 9223372036854775807 then ((spec_l10Free.f k a0 a1).bind fun t288 => (some ((((a0.extract 0 (a1 : Int).toNat) ++ (a0.extract ((wrap64 (a1 + 1)) : Int).toNat ((wrap64 (a1 + 2)) : Int).toNat)) ++ (a0.extract (a1 : Int).toNat ((wrap64 (a1 + 1)) : Int).toNat)) ++ (a0.extract ((wrap64 (a1 + 2)) : Int).toNat a0.size), t288, true))) else (none)) else (none)) else (none)) else (none)) else (none)) else (none)) else (none)) else (none)) else (none)) else (none)) else (none)) else (some ((⟨#[]⟩ : ByteArray), false, false))) = some (r1, r2, r3) := H
 have A3 := Aside0.mk A30
 clear A30
 by_cases c4 : t287 = true
 ·subst c4
  have H1 : (if 0 ≤ a1 then (if a1 ≤ (a0.size : Int) then (if 0 ≤ (wrap64 (a1 + 1)) then (if (wrap64 (a1 + 1)) ≤ (wrap64 (a1 + 2)) then (if (wrap64 (a1 + 2)) ≤ (a0.size : Int) then (if (a1 : Int).toNat + (((wrap64 (a1 + 2)) : Int).toNat - ((wrap64 (a1 + 1)) : Int).toNat) ≤ 9223372036854775807 then (if a1 ≤ (wrap64 (a1 + 1)) then (if (wrap64 (a1 + 1)) ≤ (a0.size : Int) then (if (a1 : Int).toNat + ((((wrap64 (a1 + 2)) : Int).toNat - ((wrap64 (a1 + 1)) : Int).toNat)) + (((wrap64 (a1 + 1)) : Int).toNat - (a1 : Int).toNat) ≤ 9223372036854775807 then (if 0 ≤ (wrap64 (a1 + 2)) then (if (a1 : Int).toNat + ((((wrap64 (a1 + 2)) : Int).toNat - ((wrap64 (a1 + 1)) : Int).toNat)) + ((((wrap64 (a1 + 1)) : Int).toNat - (a1 : Int).toNat)) + (a0.size - ((wrap64 (a1 + 2)) : Int).toNat) ≤ 9223372036854775807 then ((spec_l10Free.f k a0 a1).bind fun t288 => (some ((((a0.extract 0 (a1 : Int).toNat) ++ (a0.extract ((wrap64 (a1 + 1)) : Int).toNat ((wrap64 (a1 + 2)) : Int).toNat)) ++ (a0.extract (a1 : Int).toNat ((wrap64 (a1 + 1)) : Int).toNat)) ++ (a0.extract ((wrap64 (a1 + 2)) : Int).toNat a0.size), t288, true))) else (none)) else (none)) else (none)) else (none)) else (none)) else (none)) else (none)) else (none)) else (none)) else (none)) else (none)) = some (r1, r2, r3) := by rw [if_pos rfl] at H; exact H
  clear H
  have H := H1
  clear H1
  by_cases c5 : 0 ≤ a1
  ·rw [if_pos c5] at H
   have c5b0 := eq_true c5
   have c5b1 : decide (0 ≤ a1) = true := decide_eq_true c5
   clear c5
   by_cases c6 : a1 ≤ (a0.size : Int)
   ·rw [if_pos c6] at H
    have c6b0 := eq_true c6
    have c6b1 : decide (a1 ≤ (a0.size : Int)) = true := decide_eq_true c6
    clear c6
    obtain ⟨ji7, hji7⟩ : ∃ j_ : Int, (wrap64 (a1 + 1)) = j_ := ⟨_, rfl⟩
    replace H : (if 0 ≤ (ji7) then (if (ji7) ≤ (wrap64 (a1 + 2)) then (if (wrap64 (a1 + 2)) ≤ (a0.size : Int) then (if (a1 : Int).toNat + (((wrap64 (a1 + 2)) : Int).toNat - ((ji7) : Int).toNat) ≤ 9223372036854775807 then (if a1 ≤ (ji7) then (if (ji7) ≤ (a0.size : Int) then (if (a1 : Int).toNat + ((((wrap64 (a1 + 2)) : Int).toNat - ((ji7) : Int).toNat)) + (((ji7) : Int).toNat - (a1 : Int).toNat) ≤ 9223372036854775807 then (if 0 ≤ (wrap64 (a1 + 2)) then (if (a1 : Int).toNat + ((((wrap64 (a1 + 2)) : Int).toNat - ((ji7) : Int).toNat)) + ((((ji7) : Int).toNat - (a1 : Int).toNat)) + (a0.size - ((wrap64 (a1 + 2)) : Int).toNat) ≤ 9223372036854775807 then ((spec_l10Free.f k a0 a1).bind fun t288 => (some ((((a0.extract 0 (a1 : Int).toNat) ++ (a0.extract ((ji7) : Int).toNat ((wrap64 (a1 + 2)) : Int).toNat)) ++ (a0.extract (a1 : Int).toNat ((ji7) : Int).toNat)) ++ (a0.extract ((wrap64 (a1 + 2)) : Int).toNat a0.size), t288, true))) else (none)) else (none)) else (none)) else (none)) else (none)) else (none)) else (none)) else (none)) else (none)) = some (r1, r2, r3) := by first | (rw [hji7] at H; exact H) | (simp only [hji7] at H ⊢; exact H)
    (try rw [hji7] at A3)
    have hji7w : (IntKind.i64.wrap (a1 + 1)) = ji7 := (i64_w _).trans hji7
    by_cases c8 : 0 ≤ (ji7)
    ·rw [if_pos c8] at H
     have c8b0 := eq_true c8
     have c8b1 : decide (0 ≤ (ji7)) = true := decide_eq_true c8
     clear c8
     by_cases c9 : (ji7) ≤ (wrap64 (a1 + 2))
     ·rw [if_pos c9] at H
      have c9b0 := eq_true c9
      have c9b1 : decide ((ji7) ≤ (wrap64 (a1 + 2))) = true := decide_eq_true c9
      by_cases c10 : (wrap64 (a1 + 2)) ≤ (a0.size : Int)
      ·rw [if_pos c10] at H
       have c10b0 := eq_true c10
       have c10b1 : decide ((wrap64 (a1 + 2)) ≤ (a0.size : Int)) = true := decide_eq_true c10
       by_cases c11 : (a1 : Int).toNat + (((wrap64 (a1 + 2)) : Int).toNat - ((ji7) : Int).toNat) ≤ 9223372036854775807
       ·rw [if_pos c11] at H
        have c11b0 := eq_true c11
        have c11b1 : decide ((a1 : Int).toNat + (((wrap64 (a1 + 2)) : Int).toNat - ((ji7) : Int).toNat) ≤ 9223372036854775807) = true := decide_eq_true c11
        try have c11b2 : (9223372036854775807 < (a1 : Int).toNat + (((wrap64 (a1 + 2)) : Int).toNat - ((ji7) : Int).toNat)) = False := eq_false (Nat.not_lt.2 c11)
        have c12b0 := eq_true (of_decide_eq_true (by first | (with_reducible assumption) | assumption) : 0 ≤ a1)
        by_cases c13 : a1 ≤ (ji7)
        ·rw [if_pos c13] at H
         have c13b0 := eq_true c13
         have c13b1 : decide (a1 ≤ (ji7)) = true := decide_eq_true c13
         clear c13
         by_cases c14 : (ji7) ≤ (a0.size : Int)
         ·rw [if_pos c14] at H
          have c14b0 := eq_true c14
          have c14b1 : decide ((ji7) ≤ (a0.size : Int)) = true := decide_eq_true c14
          clear c14
          by_cases c15 : (a1 : Int).toNat + ((((wrap64 (a1 + 2)) : Int).toNat - ((ji7) : Int).toNat)) + (((ji7) : Int).toNat - (a1 : Int).toNat) ≤ 9223372036854775807
          ·rw [if_pos c15] at H
           have c15b0 := eq_true c15
           have c15b1 : decide ((a1 : Int).toNat + ((((wrap64 (a1 + 2)) : Int).toNat - ((ji7) : Int).toNat)) + (((ji7) : Int).toNat - (a1 : Int).toNat) ≤ 9223372036854775807) = true := decide_eq_true c15
           try have c15b2 : (9223372036854775807 < (a1 : Int).toNat + ((((wrap64 (a1 + 2)) : Int).toNat - ((ji7) : Int).toNat)) + (((ji7) : Int).toNat - (a1 : Int).toNat)) = False := eq_false (Nat.not_lt.2 c15)
           obtain ⟨ji16, hji16⟩ : ∃ j_ : Int, (wrap64 (a1 + 2)) = j_ := ⟨_, rfl⟩
           replace H : (if 0 ≤ (ji16) then (if (a1 : Int).toNat + ((((ji16) : Int).toNat - ((ji7) : Int).toNat)) + ((((ji7) : Int).toNat - (a1 : Int).toNat)) + (a0.size - ((ji16) : Int).toNat) ≤ 9223372036854775807 then ((spec_l10Free.f k a0 a1).bind fun t288 => (some ((((a0.extract 0 (a1 : Int).toNat) ++ (a0.extract ((ji7) : Int).toNat ((ji16) : Int).toNat)) ++ (a0.extract (a1 : Int).toNat ((ji7) : Int).toNat)) ++ (a0.extract ((ji16) : Int).toNat a0.size), t288, true))) else (none)) else (none)) = some (r1, r2, r3) := by first | (rw [hji16] at H; exact H) | (simp only [hji16] at H ⊢; exact H)
           (try rw [hji16] at c9b0)
           (try rw [hji16] at c9b1)
           (try rw [hji16] at c9b2)
           (try rw [hji16] at c9b3)
           (try rw [hji16] at c9b0x)
           (try rw [hji16] at c9b1x)
           (try rw [hji16] at c9b0y)
           (try rw [hji16] at c9b1y)
           (try rw [hji16] at c9b0w)
           (try rw [hji16] at c9b1w)
           (try rw [hji16] at c9)
           (try rw [hji16] at c10b0)
           (try rw [hji16] at c10b1)
           (try rw [hji16] at c10b2)
           (try rw [hji16] at c10b3)
           (try rw [hji16] at c10b0x)
           (try rw [hji16] at c10b1x)
           (try rw [hji16] at c10b0y)
           (try rw [hji16] at c10b1y)
           (try rw [hji16] at c10b0w)
           (try rw [hji16] at c10b1w)
           (try rw [hji16] at c10)
           (try rw [hji16] at c11b0)
           (try rw [hji16] at c11b1)
           (try rw [hji16] at c11b2)
           (try rw [hji16] at c11b3)
           (try rw [hji16] at c11b0x)
           (try rw [hji16] at c11b1x)
           (try rw [hji16] at c11b0y)
           (try rw [hji16] at c11b1y)
           (try rw [hji16] at c11b0w)
           (try rw [hji16] at c11b1w)
           (try rw [hji16] at c11)
           (try rw [hji16] at c15b0)
           (try rw [hji16] at c15b1)
           (try rw [hji16] at c15b2)
           (try rw [hji16] at c15b3)
           (try rw [hji16] at c15b0x)
           (try rw [hji16] at c15b1x)
           (try rw [hji16] at c15b0y)
           (try rw [hji16] at c15b1y)
           (try rw [hji16] at c15b0w)
           (try rw [hji16] at c15b1w)
           (try rw [hji16] at c15)
           (try rw [hji16] at A3)
           have hji16w : (IntKind.i64.wrap (a1 + 2)) = ji16 := (i64_w _).trans hji16
           by_cases c17 : 0 ≤ (ji16)
           ·rw [if_pos c17] at H
            have c17b0 := eq_true c17
            have c17b1 : decide (0 ≤ (ji16)) = true := decide_eq_true c17
            clear c17
            have c18b0 := eq_true (of_decide_eq_true (by first | (with_reducible assumption) | assumption) : (ji16) ≤ (a0.size : Int))
            by_cases c19 : (a1 : Int).toNat + ((((ji16) : Int).toNat - ((ji7) : Int).toNat)) + ((((ji7) : Int).toNat - (a1 : Int).toNat)) + (a0.size - ((ji16) : Int).toNat) ≤ 9223372036854775807
            ·rw [if_pos c19] at H
             have c19b0 := eq_true c19
             have c19b1 : decide ((a1 : Int).toNat + ((((ji16) : Int).toNat - ((ji7) : Int).toNat)) + ((((ji7) : Int).toNat - (a1 : Int).toNat)) + (a0.size - ((ji16) : Int).toNat) ≤ 9223372036854775807) = true := decide_eq_true c19
             try have c19b2 : (9223372036854775807 < (a1 : Int).toNat + ((((ji16) : Int).toNat - ((ji7) : Int).toNat)) + ((((ji7) : Int).toNat - (a1 : Int).toNat)) + (a0.size - ((ji16) : Int).toNat)) = False := eq_false (Nat.not_lt.2 c19)
             replace H := Option.bind_eq_some_iff.mp H
             obtain ⟨t288, A200, H⟩ := H
             replace H : (some ((((a0.extract 0 (a1 : Int).toNat) ++ (a0.extract ((ji7) : Int).toNat ((ji16) : Int).toNat)) ++ (a0.extract (a1 : Int).toNat ((ji7) : Int).toNat)) ++ (a0.extract ((ji16) : Int).toNat a0.size), t288, true)) = some (r1, r2, r3) := H
             have A20 := Aside0.mk A200
             clear A200
             simp only [Option.some.injEq, Prod.mk.injEq] at H
             obtain ⟨rfl, rfl, rfl⟩ := H
             go_enter Tryd.func32, Tryd.ntmps32
             try go_wp2_with (first | ((with_reducible refine gate_callee (f := 48) rfl ?_); refine goesL_ (some 9) rfl rfl Tryd.func48 (by kernel_rfl) rfl #[.string a0, .int .i64 a1] rfl (by (try simp only [List.map_toArray, List.map_cons, List.map_nil]); first | done | rfl | (simp only [List.length_drop, List.length_take]; rfl)) ?_; (with_reducible refine (spec_l10Corner.calls k a0 a1 true _ A3.out).mono ?_); rintro e w21 ⟨rfl, hb⟩; refine ⟨_, rfl, ?_⟩; have n0_ := Aside0.mk (below_step (by repeat (first | (with_reducible first | exact HB.out | apply below_alloc | apply pw_below_drewN | apply below_drew1) | exact HB.out)) hb); clear HB; have HB := n0_; clear n0_; (try clear hb); (try clear hb2); (try clear hk); (try clear hi)))
             have n0_ := Aside0.mk (below_drew1 HB.out)
             clear HB
             have HB := n0_
             clear n0_
             refine start_ (n := 27) (S := fun w' => True) (ds := []) #[false, false, false, false, false, false, false, false, false, false, false, false, false, false, false, false, false, false, false, false, false, false, false, false, false, false, false] (by kernel_rfl) rfl rfl trivial (fun hHeld => ?_); refine with_tabW spec_PushCorner.tab3 spec_PushCorner.bits3 (fun HT_ HW_ => ?_)
             generalize w21.drew = w22 at HB hHeld ⊢
             refine pure_ (i := 0) (N := some 11) (v := ?_) (a' := ?_) #[true, false, false, false, false, false, false, false, false, false, false, false, false, false, false, false, false, false, false, false, false, false, false, false, false, false, false] rfl rfl (any_of HT_.out (by kernel_rfl)) (fun _ _ _ h => h) (Or.inl ⟨by rfl, ?_⟩) ?_ ?_
             rotate_left
             ·intro w'
              go_simp
              with_reducible rfl
             rotate_left
             ·simp only [Act.put, List.setIfInBounds_toArray, List.set_cons_zero, List.set_cons_succ, i64_w, i32_w]
              rfl
             refine pure_ (i := 1) (N := some 12) (v := ?_) (a' := ?_) #[true, true, false, false, false, false, false, false, false, false, false, false, false, false, false, false, false, false, false, false, false, false, false, false, false, false, false] rfl rfl (any_of HT_.out (by kernel_rfl)) (fun _ _ _ h => h) (Or.inl ⟨by rfl, ?_⟩) ?_ ?_
             rotate_left
             ·intro w'
              go_simp
              with_reducible rfl
             rotate_left
             ·simp only [Act.put, List.setIfInBounds_toArray, List.set_cons_zero, List.set_cons_succ, i64_w, i32_w]
              rfl
             refine pure_ (i := 2) (N := some 13) (v := ?_) (a' := ?_) #[true, true, true, false, false, false, false, false, false, false, false, false, false, false, false, false, false, false, false, false, false, false, false, false, false, false, false] rfl rfl (any_of HT_.out (by kernel_rfl)) (fun _ _ _ h => h) (Or.inl ⟨by rfl, ?_⟩) ?_ ?_
             rotate_left
             ·intro w'
              go_simp
              with_reducible rfl
             rotate_left
             ·simp only [Act.put, List.setIfInBounds_toArray, List.set_cons_zero, List.set_cons_succ, i64_w, i32_w]
              rfl
             refine pure_ (i := 3) (N := some 14) (v := ?_) (a' := ?_) #[true, true, true, true, false, false, false, false, false, false, false, false, false, false, false, false, false, false, false, false, false, false, false, false, false, false, false] rfl rfl (any_of HT_.out (by kernel_rfl)) (fun _ _ _ h => h) (Or.inl ⟨by rfl, ?_⟩) ?_ ?_
             rotate_left
             ·intro w'
              go_simp
              with_reducible rfl
             rotate_left
             ·simp only [Act.put, List.setIfInBounds_toArray, List.set_cons_zero, List.set_cons_succ, i64_w, i32_w]
              rfl
             refine pure_ (i := 4) (N := some 15) (v := ?_) (a' := ?_) #[true, true, true, true, true, false, false, false, false, false, false, false, false, false, false, false, false, false, false, false, false, false, false, false, false, false, false] rfl rfl (any_of HT_.out (by kernel_rfl)) (fun _ _ _ h => h) (Or.inl ⟨by rfl, ?_⟩) ?_ ?_
             rotate_left
             ·intro w'
              go_simp
              with_reducible rfl
             rotate_left
             ·simp only [Act.put, List.setIfInBounds_toArray, List.set_cons_zero, List.set_cons_succ, i64_w, i32_w]
              rfl
             refine pure_ (i := 5) (N := some 16) (v := ?_) (a' := ?_) #[true, true, true, true, true, true, false, false, false, false, false, false, false, false, false, false, false, false, false, false, false, false, false, false, false, false, false] rfl rfl (any_of HT_.out (by kernel_rfl)) (fun _ _ _ h => h) (Or.inl ⟨by rfl, ?_⟩) ?_ ?_
             rotate_left
             ·intro w'
              go_simp
              with_reducible rfl
             rotate_left
             ·simp only [Act.put, List.setIfInBounds_toArray, List.set_cons_zero, List.set_cons_succ, i64_w, i32_w]
              rfl
             refine pure_ (i := 6) (N := some 17) (v := ?_) (a' := ?_) #[true, true, true, true, true, true, true, false, false, false, false, false, false, false, false, false, false, false, false, false, false, false, false, false, false, false, false] rfl rfl (any_of HT_.out (by kernel_rfl)) (fun _ _ _ h => h) (Or.inl ⟨by rfl, ?_⟩) ?_ ?_
             rotate_left
             ·intro w'
              go_simp
              with_reducible rfl
             rotate_left
             ·simp only [Act.put, List.setIfInBounds_toArray, List.set_cons_zero, List.set_cons_succ, i64_w, i32_w]
              rfl
             refine pure_ (i := 7) (N := some 18) (v := ?_) (a' := ?_) #[true, true, true, true, true, true, true, true, false, false, false, false, false, false, false, false, false, false, false, false, false, false, false, false, false, false, false] rfl rfl (any_of HT_.out (by kernel_rfl)) (fun _ _ _ h => h) (Or.inl ⟨by rfl, ?_⟩) ?_ ?_
             rotate_left
             ·intro w'
              go_simp
              with_reducible rfl
             rotate_left
             ·simp only [Act.put, List.setIfInBounds_toArray, List.set_cons_zero, List.set_cons_succ, i64_w, i32_w]
              rfl
             refine pure_ (i := 8) (N := some 19) (v := ?_) (a' := ?_) #[true, true, true, true, true, true, true, true, true, false, false, false, false, false, false, false, false, false, false, false, false, false, false, false, false, false, false] rfl rfl (any_of HT_.out (by kernel_rfl)) (fun _ _ _ h => h) (Or.inl ⟨by rfl, ?_⟩) ?_ ?_
             rotate_left
             ·intro w'
              go_simp
              with_reducible rfl
             rotate_left
             ·simp only [Act.put, List.setIfInBounds_toArray, List.set_cons_zero, List.set_cons_succ, i64_w, i32_w]
              rfl
             refine pure_ (i := 9) (N := some 20) (v := ?_) (a' := ?_) #[true, true, true, true, true, true, true, true, true, true, false, false, false, false, false, false, false, false, false, false, false, false, false, false, false, false, false] rfl rfl (any_of HT_.out (by kernel_rfl)) (fun _ _ _ h => h) (Or.inl ⟨by rfl, ?_⟩) ?_ ?_
             rotate_left
             ·intro w'
              go_simp
              with_reducible rfl
             rotate_left
             ·simp only [Act.put, List.setIfInBounds_toArray, List.set_cons_zero, List.set_cons_succ, i64_w, i32_w]
              rfl
             refine pure_ (i := 10) (N := some 21) (v := ?_) (a' := ?_) #[true, true, true, true, true, true, true, true, true, true, true, false, false, false, false, false, false, false, false, false, false, false, false, false, false, false, false] rfl rfl (any_of HT_.out (by kernel_rfl)) (fun _ _ _ h => h) (Or.inl ⟨by rfl, ?_⟩) ?_ ?_
             rotate_left
             ·intro w'
              go_simp
              with_reducible rfl
             rotate_left
             ·simp only [Act.put, List.setIfInBounds_toArray, List.set_cons_zero, List.set_cons_succ, i64_w, i32_w]
              rfl
             refine pure_ (i := 11) (N := some 22) (v := ?_) (a' := ?_) #[true, true, true, true, true, true, true, true, true, true, true, true, false, false, false, false, false, false, false, false, false, false, false, false, false, false, false] rfl rfl (any_of HT_.out (by kernel_rfl)) (fun _ _ _ h => h) (Or.inl ⟨by rfl, ?_⟩) ?_ ?_
             rotate_left
             ·intro w'
              go_simp
              with_reducible rfl
             rotate_left
             ·simp only [Act.put, List.setIfInBounds_toArray, List.set_cons_zero, List.set_cons_succ, i64_w, i32_w]
              rfl
             refine pure_ (i := 12) (N := some 23) (v := ?_) (a' := ?_) #[true, true, true, true, true, true, true, true, true, true, true, true, true, false, false, false, false, false, false, false, false, false, false, false, false, false, false] rfl rfl (any_of HT_.out (by kernel_rfl)) (fun _ _ _ h => h) (Or.inl ⟨by rfl, ?_⟩) ?_ ?_
             rotate_left
             ·intro w'
              go_simp
              with_reducible rfl
             rotate_left
             ·simp only [Act.put, List.setIfInBounds_toArray, List.set_cons_zero, List.set_cons_succ, i64_w, i32_w]
              rfl
             refine pure_ (i := 13) (N := some 24) (v := ?_) (a' := ?_) #[true, true, true, true, true, true, true, true, true, true, true, true, true, true, false, false, false, false, false, false, false, false, false, false, false, false, false] rfl rfl (any_of HT_.out (by kernel_rfl)) (fun _ _ _ h => h) (Or.inl ⟨by rfl, ?_⟩) ?_ ?_
             rotate_left
             ·intro w'
              go_simp
              with_reducible rfl
             rotate_left
             ·simp only [Act.put, List.setIfInBounds_toArray, List.set_cons_zero, List.set_cons_succ, i64_w, i32_w]
              rfl
             refine pure_ (i := 14) (N := some 25) (v := ?_) (a' := ?_) #[true, true, true, true, true, true, true, true, true, true, true, true, true, true, true, false, false, false, false, false, false, false, false, false, false, false, false] rfl rfl (any_of HT_.out (by kernel_rfl)) (fun _ _ _ h => h) (Or.inl ⟨by rfl, ?_⟩) ?_ ?_
             rotate_left
             ·intro w'
              go_simp
              with_reducible rfl
             rotate_left
             ·simp only [Act.put, List.setIfInBounds_toArray, List.set_cons_zero, List.set_cons_succ, i64_w, i32_w]
              rfl
             refine pure_ (i := 15) (N := some 26) (v := ?_) (a' := ?_) #[true, true, true, true, true, true, true, true, true, true, true, true, true, true, true, true, false, false, false, false, false, false, false, false, false, false, false] rfl rfl (any_of HT_.out (by kernel_rfl)) (fun _ _ _ h => h) (Or.inl ⟨by rfl, ?_⟩) ?_ ?_
             rotate_left
             ·intro w'
              go_simp
              with_reducible rfl
             rotate_left
             ·simp only [Act.put, List.setIfInBounds_toArray, List.set_cons_zero, List.set_cons_succ, i64_w, i32_w]
              rfl
             refine pure_ (i := 16) (N := some 27) (v := ?_) (a' := ?_) #[true, true, true, true, true, true, true, true, true, true, true, true, true, true, true, true, true, false, false, false, false, false, false, false, false, false, false] rfl rfl (any_of HT_.out (by kernel_rfl)) (fun _ _ _ h => h) (Or.inl ⟨by rfl, ?_⟩) ?_ ?_
             rotate_left
             ·intro w'
              go_simp
              with_reducible rfl
             rotate_left
             ·simp only [Act.put, List.setIfInBounds_toArray, List.set_cons_zero, List.set_cons_succ, i64_w, i32_w]
              rfl
             refine pure_ (i := 17) (N := some 28) (v := ?_) (a' := ?_) #[true, true, true, true, true, true, true, true, true, true, true, true, true, true, true, true, true, true, false, false, false, false, false, false, false, false, false] rfl rfl (any_of HT_.out (by kernel_rfl)) (fun _ _ _ h => h) (Or.inl ⟨by rfl, ?_⟩) ?_ ?_
             rotate_left
             ·intro w'
              go_simp
              with_reducible rfl
             rotate_left
             ·simp only [Act.put, List.setIfInBounds_toArray, List.set_cons_zero, List.set_cons_succ, i64_w, i32_w]
              rfl
             refine pure_ (i := 18) (N := some 29) (v := ?_) (a' := ?_) #[true, true, true, true, true, true, true, true, true, true, true, true, true, true, true, true, true, true, true, false, false, false, false, false, false, false, false] rfl rfl (any_of HT_.out (by kernel_rfl)) (fun _ _ _ h => h) (Or.inl ⟨by rfl, ?_⟩) ?_ ?_
             rotate_left
             ·intro w'
              go_simp
              with_reducible rfl
             rotate_left
             ·simp only [Act.put, List.setIfInBounds_toArray, List.set_cons_zero, List.set_cons_succ, i64_w, i32_w]
              rfl
             refine pure_ (i := 19) (N := some 30) (v := ?_) (a' := ?_) #[true, true, true, true, true, true, true, true, true, true, true, true, true, true, true, true, true, true, true, true, false, false, false, false, false, false, false] rfl rfl (any_of HT_.out (by kernel_rfl)) (fun _ _ _ h => h) (Or.inl ⟨by rfl, ?_⟩) ?_ ?_
             rotate_left
             ·intro w'
              go_simp
              with_reducible rfl
             rotate_left
             ·simp only [Act.put, List.setIfInBounds_toArray, List.set_cons_zero, List.set_cons_succ, i64_w, i32_w]
              rfl
             refine pure_ (i := 20) (N := some 31) (v := ?_) (a' := ?_) #[true, true, true, true, true, true, true, true, true, true, true, true, true, true, true, true, true, true, true, true, true, false, false, false, false, false, false] rfl rfl (any_of HT_.out (by kernel_rfl)) (fun _ _ _ h => h) (Or.inl ⟨by rfl, ?_⟩) ?_ ?_
             rotate_left
             ·intro w'
              go_simp
              with_reducible rfl
             rotate_left
             ·simp only [Act.put, List.setIfInBounds_toArray, List.set_cons_zero, List.set_cons_succ, i64_w, i32_w]
              rfl
             refine pure_ (i := 21) (N := some 32) (v := ?_) (a' := ?_) #[true, true, true, true, true, true, true, true, true, true, true, true, true, true, true, true, true, true, true, true, true, true, false, false, false, false, false] rfl rfl (any_of HT_.out (by kernel_rfl)) (fun _ _ _ h => h) (Or.inl ⟨by rfl, ?_⟩) ?_ ?_
             rotate_left
             ·intro w'
              go_simp
              with_reducible rfl
             rotate_left
             ·simp only [Act.put, List.setIfInBounds_toArray, List.set_cons_zero, List.set_cons_succ, i64_w, i32_w]
              rfl
             refine pure_ (i := 22) (N := some 33) (v := ?_) (a' := ?_) #[true, true, true, true, true, true, true, true, true, true, true, true, true, true, true, true, true, true, true, true, true, true, true, false, false, false, false] rfl rfl (any_of HT_.out (by kernel_rfl)) (fun _ _ _ h => h) (Or.inl ⟨by rfl, ?_⟩) ?_ ?_
             rotate_left
             ·intro w'
              go_simp
              with_reducible rfl
             rotate_left
             ·simp only [Act.put, List.setIfInBounds_toArray, List.set_cons_zero, List.set_cons_succ, i64_w, i32_w]
              rfl
             refine one_ (i := 23) (N := some 34) #[true, true, true, true, true, true, true, true, true, true, true, true, true, true, true, true, true, true, true, true, true, true, true, true, false, false, false] rfl rfl (one_of HT_.out (by kernel_rfl)) (by decide) (fun K hK => ?_)
             refine goes_ Tryd.func49 (by kernel_rfl) rfl #[.string a0, .int .i64 a1] (by rfl) rfl rfl (by (try simp only [List.map_toArray, List.map_cons, List.map_nil]); first | done | rfl | (simp only [List.length_drop, List.length_take]; rfl)) ?_
             with_reducible refine (spec_l10Free.calls k a0 a1 t288 _ A20.out).mono ?_
             rintro e w23 ⟨rfl, hb⟩
             refine ⟨_, rfl, ?_⟩
             have n0_ := Aside0.mk (below_step (by repeat (first | (with_reducible first | exact HB.out | apply below_alloc | apply pw_below_drewN | apply below_drew1) | exact HB.out)) hb)
             clear HB
             have HB := n0_
             clear n0_
             (try clear hb)
             (try clear hb2)
             (try clear hk)
             (try clear hi)
             refine hK.out _ _ trivial (fun hHeld => ?_)
             clear hK K
             refine norm_ (a' := ?_) ?_ ?_
             rotate_left
             ·show Act.put _ (some 34) _ = _
              simp only [Act.put, List.setIfInBounds_toArray, List.set_cons_zero, List.set_cons_succ, i64_w, i32_w]
              rfl
             refine pure_ (i := 24) (N := some 4) (v := ?_) (a' := ?_) #[true, true, true, true, true, true, true, true, true, true, true, true, true, true, true, true, true, true, true, true, true, true, true, true, true, false, false] rfl rfl (any_of HT_.out (by kernel_rfl)) (fun _ _ _ h => h) (Or.inl ⟨by rfl, ?_⟩) ?_ ?_
             rotate_left
             ·intro w'
              go_simp
              with_reducible rfl
             rotate_left
             ·simp only [Act.put, List.setIfInBounds_toArray, List.set_cons_zero, List.set_cons_succ, i64_w, i32_w]
              rfl
             refine pure_ (i := 25) (N := some 5) (v := ?_) (a' := ?_) #[true, true, true, true, true, true, true, true, true, true, true, true, true, true, true, true, true, true, true, true, true, true, true, true, true, true, false] rfl rfl (any_of HT_.out (by kernel_rfl)) (fun _ _ _ h => h) (Or.inl ⟨by rfl, ?_⟩) ?_ ?_
             rotate_left
             ·intro w'
              go_simp
              with_reducible rfl
             rotate_left
             ·simp only [Act.put, List.setIfInBounds_toArray, List.set_cons_zero, List.set_cons_succ, i64_w, i32_w]
              rfl
             refine pure_ (i := 26) (N := some 6) (v := ?_) (a' := ?_) #[true, true, true, true, true, true, true, true, true, true, true, true, true, true, true, true, true, true, true, true, true, true, true, true, true, true, true] rfl rfl (any_of HT_.out (by kernel_rfl)) (fun _ _ _ h => h) (Or.inl ⟨by rfl, ?_⟩) ?_ ?_
             rotate_left
             ·intro w'
              go_simp
              with_reducible rfl
             rotate_left
             ·simp only [Act.put, List.setIfInBounds_toArray, List.set_cons_zero, List.set_cons_succ, i64_w, i32_w]
              rfl
             refine done_ (done_of HT_.out (by kernel_rfl)) ?_
             try go_wp2
             go_ret3
             exact ⟨by first | rfl | (simp [errW_none, errW_some] <;> rfl) | (simp only [← hji7, ← hji16]; first | rfl | (simp [errW_none, errW_some] <;> rfl)) | (simp [*, errW_none, errW_some] <;> rfl), by repeat (first | (with_reducible first | exact HB.out | apply below_alloc | apply pw_below_drewN | apply below_drew1) | exact HB.out)⟩
            ·rw [if_neg c19] at H
             exact absurd H (by simp)
           ·rw [if_neg c17] at H
            exact absurd H (by simp)
          ·rw [if_neg c15] at H
           exact absurd H (by simp)
         ·rw [if_neg c14] at H
          exact absurd H (by simp)
        ·rw [if_neg c13] at H
         exact absurd H (by simp)
       ·rw [if_neg c11] at H
        exact absurd H (by simp)
      ·rw [if_neg c10] at H
       exact absurd H (by simp)
     ·rw [if_neg c9] at H
      exact absurd H (by simp)
    ·rw [if_neg c8] at H
     exact absurd H (by simp)
   ·rw [if_neg c6] at H
    exact absurd H (by simp)
  ·rw [if_neg c5] at H
   exact absurd H (by simp)
 ·replace c4 := Bool.eq_false_iff.mpr c4
  subst c4
  have H1 : (some ((⟨#[]⟩ : ByteArray), false, false)) = some (r1, r2, r3) := by rw [if_neg (show ¬ (false = true) by decide)] at H; exact H
  clear H
  have H := H1
  clear H1
  simp only [Option.some.injEq, Prod.mk.injEq] at H
  obtain ⟨rfl, rfl, rfl⟩ := H
  go_enter Tryd.func32, Tryd.ntmps32
  go_wp2_with (first | ((with_reducible refine gate_callee (f := 48) rfl ?_); refine goesL_ (some 9) rfl rfl Tryd.func48 (by kernel_rfl) rfl #[.string a0, .int .i64 a1] rfl (by (try simp only [List.map_toArray, List.map_cons, List.map_nil]); first | done | rfl | (simp only [List.length_drop, List.length_take]; rfl)) ?_; (with_reducible refine (spec_l10Corner.calls k a0 a1 false _ A3.out).mono ?_); rintro e w24 ⟨rfl, hb⟩; refine ⟨_, rfl, ?_⟩; have n0_ := Aside0.mk (below_step (by repeat (first | (with_reducible first | exact HB.out | apply below_alloc | apply pw_below_drewN | apply below_drew1) | exact HB.out)) hb); clear HB; have HB := n0_; clear n0_; (try clear hb); (try clear hb2); (try clear hk); (try clear hi)))
  go_ret3
  exact ⟨by first | rfl | (simp [errW_none, errW_some] <;> rfl) | (simp [*, errW_none, errW_some] <;> rfl), by repeat (first | (with_reducible first | exact HB.out | apply below_alloc | apply pw_below_drewN | apply below_drew1) | exact HB.out)⟩
def laws_FnExactPushCorner.f (k : Nat) (a0 : ByteArray) (a1 : Int) : Option (Bool) := if (a0.size : Int) > 1048576 then (some true) else ((spec_PushCorner.f k a0 a1).bind fun bt289 => ((impl_PushCorner.f k a0 a1).bind fun bt292 => (if bt292.1.toList = bt289.1.toList then (if (bt292.2.1 != bt289.2.1) = true then (some false) else (if (bt292.2.2 != bt289.2.2) = true then (some false) else (some true))) else (some false))))
set_option maxHeartbeats 8000000 in
set_option maxRecDepth 100000 in
theorem laws_FnExactPushCorner.calls (k : Nat) (a0 : ByteArray) (a1 : Int) (w : World) (h : laws_FnExactPushCorner.f k a0 a1 = some true) :
  Calls Tryd.prog 11 #[.string a0, .int .i64 a1] w fun e w' => e = .returned (.bool true) ∧ Below w.heap.size w w' := by
 have HB := Aside0.mk (Below.refl w.heap.size w)
 have H : (if (a0.size : Int) > 1048576 then (some true) else ((spec_PushCorner.f k a0 a1).bind fun bt289 => ((impl_PushCorner.f k a0 a1).bind fun bt292 => (if bt292.1.toList = bt289.1.toList then (if (bt292.2.1 != bt289.2.1) = true then (some false) else (if (bt292.2.2 != bt289.2.2) = true then (some false) else (some true))) else (some false))))) = some true := h
 clear h
 by_cases c3 : (a0.size : Int) > 1048576
 ·rw [if_pos c3] at H
  have c3b0 : decide (1048576 < (a0.size : Int)) = true := decide_eq_true c3
  have c3b1 : decide (1048576 < a0.size) = true := decide_eq_true (by omega)
  clear c3
  clear H
  go_enter Tryd.func11, Tryd.ntmps11
  go_wp2
  go_ret
  exact ⟨by first | rfl | (simp [errW_none, errW_some] <;> rfl) | (simp [*, errW_none, errW_some] <;> rfl), by repeat (first | (with_reducible first | exact HB.out | apply below_alloc | apply pw_below_drewN | apply below_drew1) | exact HB.out)⟩
 ·rw [if_neg c3] at H
  have c3b0 : decide (1048576 < (a0.size : Int)) = false := decide_eq_false c3
  have c3b1 : decide (1048576 < a0.size) = false := decide_eq_false (by omega)
  clear c3
  replace H := Option.bind_eq_some_iff.mp H
  obtain ⟨⟨t289, t290, t291⟩, A40, H⟩ := H
  replace H : ((impl_PushCorner.f k a0 a1).bind fun bt292 => (if bt292.1.toList = t289.toList then (if (bt292.2.1 != t290) = true then (some false) else (if (bt292.2.2 != t291) = true then (some false) else (some true))) else (some false))) = some true := H
  have A4 := Aside0.mk A40
  clear A40
  replace H := Option.bind_eq_some_iff.mp H
  obtain ⟨⟨t292, t293, t294⟩, A50, H⟩ := H
  replace H : (if t292.toList = t289.toList then (if (t293 != t290) = true then (some false) else (if (t294 != t291) = true then (some false) else (some true))) else (some false)) = some true := H
  have A5 := Aside0.mk A50
  clear A50
  by_cases c6 : t292.toList = t289.toList
  ·rw [if_pos c6] at H
   have c6b0 : (t292.toList == t289.toList) = true := beq_iff_eq.mpr c6
   have c6b1 : (t292.toList != t289.toList) = false := bne_eq_false_iff_eq.mpr c6
   clear c6
   by_cases c7 : (t293 != t290) = true
   ·rw [if_pos c7] at H
    have c7b0 : (t293 != t290) = true := c7
    (try (have c7b1 : decide (t293 = t290) = false := by simpa using c7))
    (try (have c7b2 : (t293 == t290) = false := by simpa using c7))
    (try (have c7b3 : ¬ (t293 = t290) := by simpa using c7))
    clear c7
    exact absurd H (by simp)
   ·rw [if_neg c7] at H
    have c7b0 : (t293 != t290) = false := by simpa using c7
    (try (have c7b1 : decide (t293 = t290) = true := by simpa using c7))
    (try (have c7b2 : (t293 == t290) = true := by simpa using c7))
    clear c7
    by_cases c10 : (t294 != t291) = true
    ·rw [if_pos c10] at H
     have c10b0 : (t294 != t291) = true := c10
     (try (have c10b1 : decide (t294 = t291) = false := by simpa using c10))
     (try (have c10b2 : (t294 == t291) = false := by simpa using c10))
     (try (have c10b3 : ¬ (t294 = t291) := by simpa using c10))
     clear c10
     exact absurd H (by simp)
    ·rw [if_neg c10] at H
     have c10b0 : (t294 != t291) = false := by simpa using c10
     (try (have c10b1 : decide (t294 = t291) = true := by simpa using c10))
     (try (have c10b2 : (t294 == t291) = true := by simpa using c10))
     clear c10
     clear H
     go_enter Tryd.func11, Tryd.ntmps11
     go_wp2_with (first | ((with_reducible refine gate_callee (f := 32) rfl ?_); refine goesL_ (some 17) rfl rfl Tryd.func32 (by kernel_rfl) rfl #[.string a0, .int .i64 a1] rfl (by (try simp only [List.map_toArray, List.map_cons, List.map_nil]); first | done | rfl | (simp only [List.length_drop, List.length_take]; rfl)) ?_; (with_reducible refine (spec_PushCorner.calls k a0 a1 t289 t290 t291 _ A4.out).mono ?_); rintro e w13 ⟨rfl, hb⟩; refine ⟨_, rfl, ?_⟩; have n0_ := Aside0.mk (below_step (by repeat (first | (with_reducible first | exact HB.out | apply below_alloc | apply pw_below_drewN | apply below_drew1) | exact HB.out)) hb); clear HB; have HB := n0_; clear n0_; (try clear hb); (try clear hb2); (try clear hk); (try clear hi)) | ((with_reducible refine gate_callee (f := 33) rfl ?_); refine goesL_ (some 24) rfl rfl Tryd.func33 (by kernel_rfl) rfl #[.string a0, .int .i64 a1] rfl (by (try simp only [List.map_toArray, List.map_cons, List.map_nil]); first | done | rfl | (simp only [List.length_drop, List.length_take]; rfl)) ?_; (with_reducible refine (impl_PushCorner.calls k a0 a1 t292 t293 t294 _ A5.out).mono ?_); rintro e w14 ⟨rfl, hb⟩; refine ⟨_, rfl, ?_⟩; have n0_ := Aside0.mk (below_step (by repeat (first | (with_reducible first | exact HB.out | apply below_alloc | apply pw_below_drewN | apply below_drew1) | exact HB.out)) hb); clear HB; have HB := n0_; clear n0_; (try clear hb); (try clear hb2); (try clear hk); (try clear hi)))
     go_ret
     exact ⟨by first | rfl | (simp [errW_none, errW_some] <;> rfl) | (simp [*, errW_none, errW_some] <;> rfl), by repeat (first | (with_reducible first | exact HB.out | apply below_alloc | apply pw_below_drewN | apply below_drew1) | exact HB.out)⟩
  ·rw [if_neg c6] at H
   have c6b0 : (t292.toList == t289.toList) = false := beq_eq_false_iff_ne.mpr c6
   have c6b1 : (t292.toList != t289.toList) = true := bne_iff_ne.mpr c6
   exact absurd H (by simp)
def laws_FnExactPushCorner.Pure : Prop := ∀ (a0 : ByteArray) (a1 : Int), a0.size ≤ maxLen → (Lit.int .i64 a1).wf = true → ∃ k, laws_FnExactPushCorner.f k a0 a1 = some true
theorem laws_FnExactPushCorner.walk (P : laws_FnExactPushCorner.Pure) (a0 : ByteArray) (a1 : Int) (w : World) (w0 : a0.size ≤ maxLen) (w1 : (Lit.int .i64 a1).wf = true) :
  Calls Tryd.prog 11 #[.string a0, .int .i64 a1] w fun e w' => e = .returned (.bool true) ∧ Below w.heap.size w w' := by
 obtain ⟨k, h⟩ := P a0 a1 w0 w1
 refine (laws_FnExactPushCorner.calls k a0 a1 w h).mono ?_
 rintro e w' ⟨rfl, hd⟩
 exact ⟨rfl, hd⟩
end Go.Proofs.YtckmmpknaengjaaDoor.Px
end
section
namespace Go.Proofs.YtckmmpknaengjaaDoor.Px
end Go.Proofs.YtckmmpknaengjaaDoor.Px
namespace Go.Proofs.YtckmmpknaengjaaDoor.Giv
end Go.Proofs.YtckmmpknaengjaaDoor.Giv
namespace Go.Proofs.YtckmmpknaengjaaDoor.Px
open Go.Proofs.YtckmmpknaengjaaDoor.Giv
open Go.RowKit Go.Proofs.YtckmmpknaengjaaDoorW.PrintWords Go.Proofs.YtckmmpknaengjaaDoorW.PrintLast Go.Proofs.YtckmmpknaengjaaDoorW.PrintMore
attribute [local go_sem] max2_int min2_int max_two min_two max_three min_three max_four min_four
set_option linter.unusedVariables false
set_option linter.unusedSimpArgs false
end Go.Proofs.YtckmmpknaengjaaDoor.Px
end
section
namespace Go.Proofs.YtckmmpknaengjaaDoor.Px
end Go.Proofs.YtckmmpknaengjaaDoor.Px
namespace Go.Proofs.YtckmmpknaengjaaDoor.Giv
end Go.Proofs.YtckmmpknaengjaaDoor.Giv
namespace Go.Proofs.YtckmmpknaengjaaDoor.Px
open Go.Proofs.YtckmmpknaengjaaDoor.Giv
open Go.RowKit Go.Proofs.YtckmmpknaengjaaDoorW.PrintWords Go.Proofs.YtckmmpknaengjaaDoorW.PrintLast Go.Proofs.YtckmmpknaengjaaDoorW.PrintMore
attribute [local go_sem] max2_int min2_int max_two min_two max_three min_three max_four min_four
set_option linter.unusedVariables false
set_option linter.unusedSimpArgs false
end Go.Proofs.YtckmmpknaengjaaDoor.Px
end
section
namespace Go.Proofs.YtckmmpknaengjaaDoor.Px
end Go.Proofs.YtckmmpknaengjaaDoor.Px
namespace Go.Proofs.YtckmmpknaengjaaDoor.Giv
end Go.Proofs.YtckmmpknaengjaaDoor.Giv
namespace Go.Proofs.YtckmmpknaengjaaDoor.Px
open Go.Proofs.YtckmmpknaengjaaDoor.Giv
open Go.RowKit Go.Proofs.YtckmmpknaengjaaDoorW.PrintWords Go.Proofs.YtckmmpknaengjaaDoorW.PrintLast Go.Proofs.YtckmmpknaengjaaDoorW.PrintMore
attribute [local go_sem] max2_int min2_int max_two min_two max_three min_three max_four min_four
set_option linter.unusedVariables false
set_option linter.unusedSimpArgs false
attribute [local go_sem high] eqA23
end Go.Proofs.YtckmmpknaengjaaDoor.Px
end
section
namespace Go.Proofs.YtckmmpknaengjaaDoor.Px
end Go.Proofs.YtckmmpknaengjaaDoor.Px
namespace Go.Proofs.YtckmmpknaengjaaDoor.Giv
end Go.Proofs.YtckmmpknaengjaaDoor.Giv
namespace Go.Proofs.YtckmmpknaengjaaDoor.Px
open Go.Proofs.YtckmmpknaengjaaDoor.Giv
open Go.RowKit Go.Proofs.YtckmmpknaengjaaDoorW.PrintWords Go.Proofs.YtckmmpknaengjaaDoorW.PrintLast Go.Proofs.YtckmmpknaengjaaDoorW.PrintMore
attribute [local go_sem] max2_int min2_int max_two min_two max_three min_three max_four min_four
set_option linter.unusedVariables false
set_option linter.unusedSimpArgs false
end Go.Proofs.YtckmmpknaengjaaDoor.Px
end
section
namespace Go.Proofs.YtckmmpknaengjaaDoor.Px
end Go.Proofs.YtckmmpknaengjaaDoor.Px
namespace Go.Proofs.YtckmmpknaengjaaDoor.Giv
end Go.Proofs.YtckmmpknaengjaaDoor.Giv
namespace Go.Proofs.YtckmmpknaengjaaDoor.Px
open Go.Proofs.YtckmmpknaengjaaDoor.Giv
open Go.RowKit Go.Proofs.YtckmmpknaengjaaDoorW.PrintWords Go.Proofs.YtckmmpknaengjaaDoorW.PrintLast Go.Proofs.YtckmmpknaengjaaDoorW.PrintMore
attribute [local go_sem] max2_int min2_int max_two min_two max_three min_three max_four min_four
set_option linter.unusedVariables false
set_option linter.unusedSimpArgs false
end Go.Proofs.YtckmmpknaengjaaDoor.Px
end
section
namespace Go.Proofs.YtckmmpknaengjaaDoor.Q
open Go.RowKit Go.Proofs.YtckmmpknaengjaaDoor.Px Go.Proofs.YtckmmpknaengjaaDoor.Giv Go.Proofs.YtckmmpknaengjaaDoorW.PrintWords Go.Proofs.YtckmmpknaengjaaDoorW.PrintLast Go.Proofs.YtckmmpknaengjaaDoorW.PrintMore
set_option linter.unusedVariables false
set_option linter.unusedSimpArgs false
theorem wrap_id (x : Int) (h0 : -9223372036854775808 ≤ x) (h1 : x ≤ 9223372036854775807) : wrap64 x = x := by unfold wrap64; omega
theorem in_f (a lo hi : Int) : spec_l1In.f a lo hi = some (decide (lo ≤ a ∧ a ≤ hi)) := by
  unfold spec_l1In.f
  by_cases h : a ≥ lo
  · rw [if_pos h]
    by_cases h2 : a ≤ hi <;> simp [h2, show lo ≤ a from h]
  · rw [if_neg h]
    have h' : ¬ lo ≤ a := h
    simp [h']
theorem bt_data (s : ByteArray) (i : Nat) (h : i < s.size) : ∃ b, s.data.toList[i]? = some b ∧ bt s (i : Int) = (b.toNat : Int) := by
  refine ⟨s[i], ?_, ?_⟩
  · have : s.data.toList[i]? = s.data[i]? := by simp
    rw [this, Array.getElem?_eq_getElem (by simpa using h)]
    rfl
  · unfold bt
    rw [dif_pos (by simpa using h)]
    rfl
def okc (b : Int) : Bool := decide (b = 108) || decide (b = 114) || decide (b = 117) || decide (b = 100)
def dxc (b : Int) : Int := if b = 108 then -1 else if b = 114 then 1 else 0
def dyc (b : Int) : Int := if b = 108 then 0 else if b = 114 then 0 else if b = 117 then 1 else if b = 100 then -1 else 0
theorem dx_range (b : Int) : -1 ≤ dxc b ∧ dxc b ≤ 1 := by unfold dxc; split <;> (try split) <;> omega
theorem dy_range (b : Int) : -1 ≤ dyc b ∧ dyc b ≤ 1 := by unfold dyc; split <;> (try split) <;> (try split) <;> (try split) <;> omega
theorem step_f (b : Int) : spec_l10Step.f b = some (dxc b, dyc b, okc b) := by
  unfold spec_l10Step.f dxc dyc okc
  by_cases h1 : b = 108
  · subst h1; rfl
  · by_cases h2 : b = 114
    · subst h2; rfl
    · by_cases h3 : b = 117
      · subst h3; rfl
      · by_cases h4 : b = 100
        · subst h4; rfl
        · simp [h1, h2, h3, h4]
theorem moved_f (x y b : Int) (hx : -100000 ≤ x ∧ x ≤ 100000) (hy : -100000 ≤ y ∧ y ≤ 100000) : impl_point_moved.f x y b = some (x + dxc b, y + dyc b) := by
  unfold impl_point_moved.f dxc dyc
  by_cases h1 : b = 108
  · subst h1; simp [wrap_id (x - 1) (by omega) (by omega)]; omega
  · by_cases h2 : b = 114
    · subst h2; simp [wrap_id (x + 1) (by omega) (by omega)]
    · by_cases h3 : b = 117
      · subst h3; simp [wrap_id (y + 1) (by omega) (by omega)]
      · by_cases h4 : b = 100
        · subst h4; simp [wrap_id (y - 1) (by omega) (by omega)]; omega
        · simp [h1, h2, h3, h4]
def inb (x : Int) : Bool := decide (-12 ≤ x ∧ x ≤ 12)
def goodFrom (s : ByteArray) : Nat → Nat → Int → Int → Bool
  | 0, _, _, _ => true
  | d + 1, i, x, y => okc (bt s (i : Int)) && (inb (x + dxc (bt s (i : Int))) && (inb (y + dyc (bt s (i : Int))) && goodFrom s d (i + 1) (x + dxc (bt s (i : Int))) (y + dyc (bt s (i : Int)))))
def ptsFrom (s : ByteArray) : Nat → Nat → Int → Int → List (Int × Int)
  | 0, _, _, _ => []
  | d + 1, i, x, y => (x + dxc (bt s (i : Int)), y + dyc (bt s (i : Int))) :: ptsFrom s d (i + 1) (x + dxc (bt s (i : Int))) (y + dyc (bt s (i : Int)))
theorem ptsFrom_length (s : ByteArray) : ∀ (d i : Nat) (x y : Int), (ptsFrom s d i x y).length = d
  | 0, _, _, _ => rfl
  | d + 1, i, x, y => by simp only [ptsFrom, List.length_cons]; rw [ptsFrom_length]
def mkA (p : Int × Int) : S23 := ⟨p.1, p.2⟩
def mkP (p : Int × Int) : S54 := ⟨p.1, p.2⟩
theorem points_l0 (s : ByteArray) (hs : s.size ≤ 400) : ∀ (d i k : Nat) (out : List S23) (x y : Int), s.size - i = d → i ≤ s.size → d < k → out.length ≤ i + 1 → (-(i : Int) ≤ x ∧ x ≤ (i : Int)) → (-(i : Int) ≤ y ∧ y ≤ (i : Int)) →
    ∃ o, spec_l10Points.l0 k s out x y (i : Int) = some (o, goodFrom s d i x y) ∧ (goodFrom s d i x y = true → o = out ++ (ptsFrom s d i x y).map mkA) := by
  intro d
  induction d with
  | zero =>
    intro i k out x y hd hi hk ho hx hy
    obtain ⟨k, rfl⟩ : ∃ m, k = m + 1 := ⟨k - 1, by omega⟩
    refine ⟨out, ?_, fun _ => by simp [ptsFrom]⟩
    rw [spec_l10Points.l0, if_neg (by omega)]
    rfl
  | succ d ih =>
    intro i k out x y hd hi hk ho hx hy
    obtain ⟨k, rfl⟩ : ∃ m, k = m + 1 := ⟨k - 1, by omega⟩
    have e : wrap64 ((i : Int) + 1) = ((i + 1 : Nat) : Int) := by rw [wrap_id _ (by omega) (by omega)]; omega
    have hdx := dx_range (bt s (i : Int))
    have hdy := dy_range (bt s (i : Int))
    rw [spec_l10Points.l0, if_pos (by omega), if_pos (by omega), step_f, Option.bind_some]
    simp only []
    rw [wrap_id (x + dxc (bt s (i : Int))) (by omega) (by omega), wrap_id (y + dyc (bt s (i : Int))) (by omega) (by omega), in_f, in_f, e]
    have eg : goodFrom s (d + 1) i x y = (okc (bt s (i : Int)) && (inb (x + dxc (bt s (i : Int))) && (inb (y + dyc (bt s (i : Int))) && goodFrom s d (i + 1) (x + dxc (bt s (i : Int))) (y + dyc (bt s (i : Int)))))) := rfl
    cases h1 : okc (bt s (i : Int)) with
    | false =>
      refine ⟨out, ?_, fun h => by rw [eg, h1] at h; simp at h⟩
      rw [if_neg (by simp), eg, h1]; rfl
    | true =>
      rw [if_pos rfl, Option.bind_some]
      have ex : decide (-12 ≤ x + dxc (bt s (i : Int)) ∧ x + dxc (bt s (i : Int)) ≤ 12) = inb (x + dxc (bt s (i : Int))) := rfl
      have ey : decide (-12 ≤ y + dyc (bt s (i : Int)) ∧ y + dyc (bt s (i : Int)) ≤ 12) = inb (y + dyc (bt s (i : Int))) := rfl
      rw [ex, ey]
      cases h2 : inb (x + dxc (bt s (i : Int))) with
      | false =>
        refine ⟨out, ?_, fun h => by rw [eg, h1, h2] at h; simp at h⟩
        rw [if_neg (by simp), eg, h1, h2]; rfl
      | true =>
        rw [if_pos rfl, Option.bind_some]
        cases h3 : inb (y + dyc (bt s (i : Int))) with
        | false =>
          refine ⟨out, ?_, fun h => by rw [eg, h1, h2, h3] at h; simp at h⟩
          rw [if_neg (by simp), eg, h1, h2, h3]; rfl
        | true =>
          rw [if_pos rfl, if_pos (by omega)]
          obtain ⟨o, h4, h5⟩ := ih (i + 1) k (out ++ [(⟨x + dxc (bt s (i : Int)), y + dyc (bt s (i : Int))⟩ : S23)]) (x + dxc (bt s (i : Int))) (y + dyc (bt s (i : Int))) (by omega) (by omega) (by omega) (by rw [List.length_append, List.length_singleton]; omega) (by omega) (by omega)
          have eg2 : goodFrom s (d + 1) i x y = goodFrom s d (i + 1) (x + dxc (bt s (i : Int))) (y + dyc (bt s (i : Int))) := by rw [eg, h1, h2, h3]; rfl
          refine ⟨o, by rw [h4, eg2], fun h => ?_⟩
          rw [h5 (by rw [← eg2]; exact h)]
          simp [ptsFrom, mkA]
theorem impl_points_l0 (s : ByteArray) (hs : s.size ≤ 400) : ∀ (d i k : Nat) (out : List S54) (x y : Int), s.size - i = d → i ≤ s.size → d < k → (-(i : Int) ≤ x ∧ x ≤ (i : Int)) → (-(i : Int) ≤ y ∧ y ≤ (i : Int)) → out.length = i →
    impl_pointsOf.l0 k s (out ++ [(⟨x, y⟩ : S54)]) (s.size : Int) (i : Int) = some (out ++ [(⟨x, y⟩ : S54)] ++ (ptsFrom s d i x y).map mkP) := by
  intro d
  induction d with
  | zero =>
    intro i k out x y hd hi hk hx hy ho
    obtain ⟨k, rfl⟩ : ∃ m, k = m + 1 := ⟨k - 1, by omega⟩
    rw [impl_pointsOf.l0, if_neg (by omega)]
    simp [ptsFrom]
  | succ d ih =>
    intro i k out x y hd hi hk hx hy ho
    obtain ⟨k, rfl⟩ : ∃ m, k = m + 1 := ⟨k - 1, by omega⟩
    have e : wrap64 ((i : Int) + 1) = ((i + 1 : Nat) : Int) := by rw [wrap_id _ (by omega) (by omega)]; omega
    have hdx := dx_range (bt s (i : Int))
    have hdy := dy_range (bt s (i : Int))
    have hr : rd_T54 (out ++ [(⟨x, y⟩ : S54)]) (i : Int) = ⟨x, y⟩ := by
      unfold rd_T54
      rw [Int.toNat_natCast, List.getD_eq_getElem?_getD, ← ho]
      simp
    rw [impl_pointsOf.l0, if_pos (by omega), if_pos (by omega), if_pos (by simp; omega), if_pos (by omega), hr, moved_f x y _ (by omega) (by omega), Option.bind_some, if_pos (by simp; omega), e]
    rw [ih (i + 1) k (out ++ [(⟨x, y⟩ : S54)]) (x + dxc (bt s (i : Int))) (y + dyc (bt s (i : Int))) (by omega) (by omega) (by omega) (by omega) (by omega) (by simp; omega)]
    simp [ptsFrom, mkP]
def pts (s : ByteArray) : List (Int × Int) := (0, 0) :: ptsFrom s s.size 0 0 0
theorem pts_length (s : ByteArray) : (pts s).length = s.size + 1 := by unfold pts; rw [List.length_cons, ptsFrom_length]
def pathB (s : ByteArray) : Bool := decide (s.size ≤ 400) && goodFrom s s.size 0 0 0
theorem l10Points_f (s : ByteArray) (k : Nat) (hk : s.size < k) : ∃ o, spec_l10Points.f k s = some (o, pathB s) ∧ (pathB s = true → o = (pts s).map mkA) := by
  unfold spec_l10Points.f pathB
  rw [Option.bind_some]
  by_cases h : s.size ≤ 400
  · rw [if_neg (by omega), decide_eq_true h]
    obtain ⟨o, h1, h2⟩ := points_l0 s h s.size 0 k [(⟨0, 0⟩ : S23)] 0 0 (by omega) (by omega) hk (by simp) (by omega) (by omega)
    refine ⟨o, ?_, fun hg => ?_⟩
    · rw [Bool.true_and]; exact h1
    · rw [Bool.true_and] at hg
      rw [h2 hg]
      simp [pts, mkA]
  · rw [if_pos (by omega), decide_eq_false h]
    exact ⟨_, rfl, fun h => by simp at h⟩
theorem pointsOf_f (s : ByteArray) (hs : s.size ≤ 400) (k : Nat) (hk : s.size < k) : impl_pointsOf.f k s = some ((pts s).map mkP) := by
  unfold impl_pointsOf.f
  have := impl_points_l0 s hs s.size 0 k [] 0 0 (by omega) (by omega) hk (by omega) (by omega) rfl
  rw [List.nil_append] at this
  refine Eq.trans this ?_
  simp [pts, mkP]
theorem within_f (x y : Int) (hx : -100000 ≤ x ∧ x ≤ 100000) (hy : -100000 ≤ y ∧ y ≤ 100000) : impl_readPath_1.f x y = some (!(inb x && inb y)) := by
  unfold impl_readPath_1.f impl_point_isWithin.f
  rw [wrap_id (-x) (by omega) (by omega), wrap_id (-y) (by omega) (by omega)]
  have ex : (mx x (-x) ≤ 12) ↔ (-12 ≤ x ∧ x ≤ 12) := by unfold mx; split <;> omega
  have ey : (mx y (-y) ≤ 12) ↔ (-12 ≤ y ∧ y ≤ 12) := by unfold mx; split <;> omega
  have iy : inb y = decide (mx y (-y) ≤ 12) := by unfold inb; rw [decide_eq_decide]; exact ey.symm
  by_cases h : mx x (-x) ≤ 12
  · have ix : inb x = true := by unfold inb; exact decide_eq_true (ex.mp h)
    rw [if_pos h, Option.bind_some, ix, iy, Bool.true_and]
  · have ix : inb x = false := by unfold inb; exact decide_eq_false (fun g => h (ex.mpr g))
    rw [if_neg h, Option.bind_some, ix]; rfl
theorem index_l0 (l : List (Int × Int)) (hl : l.length ≤ 1000) (hb : ∀ p ∈ l, (-100000 ≤ p.1 ∧ p.1 ≤ 100000) ∧ (-100000 ≤ p.2 ∧ p.2 ≤ 100000)) : ∀ (d i k : Nat), l.length - i = d → i ≤ l.length → d < k →
    ∃ r, slices_IndexFunc_impl_point_impl_point_at_impl_readPath_1.l0 k (l.map mkP) (l.length : Int) (i : Int) = some r ∧ decide (r ≥ 0) = !((l.drop i).all fun p => inb p.1 && inb p.2) := by
  intro d
  induction d with
  | zero =>
    intro i k hd hi hk
    obtain ⟨k, rfl⟩ : ∃ m, k = m + 1 := ⟨k - 1, by omega⟩
    refine ⟨-1, ?_, by rw [List.drop_of_length_le (by omega)]; rfl⟩
    rw [slices_IndexFunc_impl_point_impl_point_at_impl_readPath_1.l0, if_neg (by omega)]
  | succ d ih =>
    intro i k hd hi hk
    obtain ⟨k, rfl⟩ : ∃ m, k = m + 1 := ⟨k - 1, by omega⟩
    have e : wrap64 ((i : Int) + 1) = ((i + 1 : Nat) : Int) := by rw [wrap_id _ (by omega) (by omega)]; omega
    have hr : rd_T54 (l.map mkP) (i : Int) = mkP (l[i]'(by omega)) := by
      unfold rd_T54
      rw [Int.toNat_natCast, List.getD_eq_getElem?_getD, List.getElem?_map, List.getElem?_eq_getElem (by omega)]
      rfl
    have hm := hb (l[i]'(by omega)) (List.getElem_mem _)
    rw [slices_IndexFunc_impl_point_impl_point_at_impl_readPath_1.l0, if_pos (by omega), if_pos (by omega), if_pos (by rw [List.length_map]; omega), hr, e]
    rw [show (mkP (l[i]'(by omega))).f0 = (l[i]'(by omega)).1 from rfl, show (mkP (l[i]'(by omega))).f1 = (l[i]'(by omega)).2 from rfl, within_f _ _ hm.1 hm.2, Option.bind_some, List.drop_eq_getElem_cons (by omega : i < l.length), List.all_cons]
    show ∃ r, (if (!(inb (l[i]'(by omega)).1 && inb (l[i]'(by omega)).2)) = true then _ else _) = some r ∧ _
    cases hq : (inb (l[i]'(by omega)).1 && inb (l[i]'(by omega)).2) with
    | false => exact ⟨(i : Int), by rw [if_pos (by simp)], by simp⟩
    | true =>
      obtain ⟨r, h1, h2⟩ := ih (i + 1) k (by omega) (by omega) (by omega)
      exact ⟨r, by rw [if_neg (by simp)]; exact h1, by rw [h2, Bool.true_and]⟩
theorem ptsFrom_bound (s : ByteArray) : ∀ (d i : Nat) (x y : Int), (-(i : Int) ≤ x ∧ x ≤ (i : Int)) → (-(i : Int) ≤ y ∧ y ≤ (i : Int)) → ∀ p ∈ ptsFrom s d i x y, (-((i + d : Nat) : Int) ≤ p.1 ∧ p.1 ≤ ((i + d : Nat) : Int)) ∧ (-((i + d : Nat) : Int) ≤ p.2 ∧ p.2 ≤ ((i + d : Nat) : Int))
  | 0, i, x, y, _, _, p, hp => by simp [ptsFrom] at hp
  | d + 1, i, x, y, hx, hy, p, hp => by
    have hdx := dx_range (bt s (i : Int))
    have hdy := dy_range (bt s (i : Int))
    simp only [ptsFrom, List.mem_cons] at hp
    rcases hp with rfl | hp
    · simp only; omega
    · have := ptsFrom_bound s d (i + 1) (x + dxc (bt s (i : Int))) (y + dyc (bt s (i : Int))) (by omega) (by omega) p hp
      omega
theorem pts_bound (s : ByteArray) (hs : s.size ≤ 400) : ∀ p ∈ pts s, (-100000 ≤ p.1 ∧ p.1 ≤ 100000) ∧ (-100000 ≤ p.2 ∧ p.2 ≤ 100000) := by
  intro p hp
  unfold pts at hp
  rw [List.mem_cons] at hp
  rcases hp with rfl | hp
  · simp
  · have := ptsFrom_bound s s.size 0 0 0 (by omega) (by omega) p hp
    omega
def lettersFrom (s : ByteArray) : Nat → Nat → Bool
  | 0, _ => true
  | d + 1, i => okc (bt s (i : Int)) && lettersFrom s d (i + 1)
theorem good_parts (s : ByteArray) : ∀ (d i : Nat) (x y : Int), goodFrom s d i x y = (lettersFrom s d i && (ptsFrom s d i x y).all fun p => inb p.1 && inb p.2)
  | 0, _, _, _ => rfl
  | d + 1, i, x, y => by
    simp only [goodFrom, lettersFrom, ptsFrom, List.all_cons]
    rw [good_parts s d (i + 1)]
    cases okc (bt s (i : Int)) <;> cases inb (x + dxc (bt s (i : Int))) <;> cases inb (y + dyc (bt s (i : Int))) <;> cases lettersFrom s d (i + 1) <;> simp
def stepB (b : UInt8) : Bool := ([108, 114, 117, 100] : List UInt8).contains b
theorem okc_byte (b : UInt8) : okc (b.toNat : Int) = stepB b := by
  unfold okc stepB
  have key : ∀ n : Fin 256, (decide ((n.val : Int) = 108) || decide ((n.val : Int) = 114) || decide ((n.val : Int) = 117) || decide ((n.val : Int) = 100)) = ([108, 114, 117, 100] : List UInt8).contains (UInt8.ofNat n.val) := by decide +kernel
  have h := key ⟨b.toNat, b.toNat_lt⟩
  simpa using h
theorem letters_list (s : ByteArray) : ∀ (d i : Nat), i + d = s.size → lettersFrom s d i = (s.data.toList.drop i).all stepB := by
  have hsz : s.data.toList.length = s.size := by simp
  intro d
  induction d with
  | zero =>
    intro i hi
    rw [List.drop_of_length_le (by omega)]
    rfl
  | succ d ih =>
    intro i hi
    obtain ⟨b, hb, hv⟩ := bt_data s i (by omega)
    have hdr : s.data.toList.drop i = b :: s.data.toList.drop (i + 1) := by
      rw [List.drop_eq_getElem_cons (by omega)]
      congr 1
      rw [List.getElem?_eq_getElem (by omega)] at hb
      exact Option.some.inj hb
    simp only [lettersFrom]
    rw [hdr, List.all_cons, hv, ih (i + 1) (by omega), okc_byte]
theorem drop_all {α : Type} (p : α → Bool) : ∀ (l : List α), (∀ x ∈ l.dropWhile p, p x = true) → ∀ x ∈ l, p x = true
  | [], _ => by simp
  | a :: l, h => by
    intro x hx
    rw [List.dropWhile_cons] at h
    by_cases ha : p a = true
    · rw [if_pos ha] at h
      rw [List.mem_cons] at hx
      rcases hx with rfl | hx
      · exact ha
      · exact drop_all p l h x hx
    · rw [if_neg ha] at h
      exact h x hx
theorem dropWhile_nil {α : Type} (p : α → Bool) : ∀ (l : List α), l.dropWhile p = [] ↔ ∀ x ∈ l, p x = true
  | [] => by simp
  | a :: l => by
    rw [List.dropWhile_cons]
    by_cases ha : p a = true
    · rw [if_pos ha, dropWhile_nil p l]
      simp [ha]
    · rw [if_neg ha]
      simp [ha]
theorem trim_nil (l cs : List UInt8) : (Lib.trimS l cs = []) ↔ ∀ b ∈ l, cs.contains b = true := by
  unfold Lib.trimS Lib.trimLeftS Lib.trimRightS
  constructor
  · intro h
    rw [dropWhile_nil] at h
    have h1 : ∀ x ∈ l.reverse.dropWhile (cs.contains ·), cs.contains x = true := fun x hx => h x (List.mem_reverse.mpr hx)
    have h2 := drop_all (cs.contains ·) l.reverse h1
    intro b hb
    exact h2 b (List.mem_reverse.mpr hb)
  · intro h
    have h1 : l.reverse.dropWhile (cs.contains ·) = [] := by
      rw [dropWhile_nil]
      intro x hx
      exact h x (List.mem_reverse.mp hx)
    rw [h1]
    rfl
theorem trim_f (s : ByteArray) (hs : s.size ≤ 400) : ∃ t, strings_Trim.f s ⟨#[108, 114, 117, 100]⟩ = some t ∧ (t.toList != ([] : List UInt8)) = !lettersFrom s s.size 0 := by
  unfold strings_Trim.f
  rw [if_pos ⟨by omega, rfl⟩]
  refine ⟨_, rfl, ?_⟩
  rw [Lib.toList_data, letters_list s s.size 0 (by omega), List.drop_zero]
  show ((Lib.trimS s.data.toList [108, 114, 117, 100]) != ([] : List UInt8)) = _
  have h := trim_nil s.data.toList [108, 114, 117, 100]
  cases ha : s.data.toList.all stepB with
  | true =>
    have : Lib.trimS s.data.toList [108, 114, 117, 100] = [] := h.mpr (fun b hb => List.all_eq_true.mp ha b hb)
    rw [this]; rfl
  | false =>
    have : Lib.trimS s.data.toList [108, 114, 117, 100] ≠ [] := by
      intro hn
      have h3 : s.data.toList.all stepB = true := List.all_eq_true.mpr (fun b hb => h.mp hn b hb)
      rw [h3] at ha
      cases ha
    simpa using this
theorem readPath_f (s : ByteArray) (k : Nat) (hk : s.size + 3 < k) : ∃ o, impl_readPath.f k s = some (o, pathB s) ∧ (pathB s = true → o = (pts s).map mkP) := by
  unfold impl_readPath.f pathB
  obtain ⟨k, rfl⟩ : ∃ m, k = m + 1 := ⟨k - 1, by omega⟩
  by_cases h : s.size ≤ 400
  · rw [if_neg (by omega), decide_eq_true h, Bool.true_and, good_parts]
    obtain ⟨t, ht, hv⟩ := trim_f s h
    rw [ht, Option.bind_some, hv, impl_readPath.j0]
    cases hl : lettersFrom s s.size 0 with
    | false =>
      rw [if_pos (by simp)]
      exact ⟨[], rfl, fun h => by simp at h⟩
    | true =>
      rw [if_neg (by simp), pointsOf_f s h k (by omega), Option.bind_some]
      obtain ⟨r, h1, h2⟩ := index_l0 (pts s) (by rw [pts_length]; omega) (pts_bound s h) (pts s).length 0 k (by omega) (by omega) (by rw [pts_length]; omega)
      unfold slices_ContainsFunc_impl_point_impl_point_at_impl_readPath_1.f slices_IndexFunc_impl_point_impl_point_at_impl_readPath_1.f
      have e0 : ((0 : Nat) : Int) = 0 := rfl
      rw [e0] at h1
      rw [List.length_map, h1, Option.bind_some, Option.bind_some, h2, Bool.not_not, List.drop_zero]
      refine ⟨_, ?_, fun _ => rfl⟩
      congr 2
  · rw [if_pos (by omega), decide_eq_false h, impl_readPath.j0, if_pos rfl]
    exact ⟨[], rfl, fun h => by simp at h⟩
theorem spec_IsPath_f (s : ByteArray) (k : Nat) (hk : s.size < k) : spec_IsPath.f k s = some (pathB s) := by
  unfold spec_IsPath.f
  obtain ⟨o, h1, _⟩ := l10Points_f s k hk
  rw [h1]; rfl
end Go.Proofs.YtckmmpknaengjaaDoor.Q
end
section
namespace Go.Proofs.YtckmmpknaengjaaDoor.Q
open Go.RowKit Go.Proofs.YtckmmpknaengjaaDoor.Px Go.Proofs.YtckmmpknaengjaaDoor.Giv Go.Proofs.YtckmmpknaengjaaDoorW.PrintWords Go.Proofs.YtckmmpknaengjaaDoorW.PrintLast Go.Proofs.YtckmmpknaengjaaDoorW.PrintMore
set_option linter.unusedVariables false
set_option linter.unusedSimpArgs false
def ptAt (s : ByteArray) (i : Nat) : Int × Int := (pts s).getD i (0, 0)
theorem rdA (s : ByteArray) (i : Nat) (h : i < (pts s).length) : rd_T23 ((pts s).map mkA) (i : Int) = mkA (ptAt s i) := by
  unfold rd_T23 ptAt
  rw [Int.toNat_natCast, List.getD_eq_getElem?_getD, List.getD_eq_getElem?_getD, List.getElem?_map, List.getElem?_eq_getElem h]
  rfl
theorem rdP (s : ByteArray) (i : Nat) (h : i < (pts s).length) : rd_T54 ((pts s).map mkP) (i : Int) = mkP (ptAt s i) := by
  unfold rd_T54 ptAt
  rw [Int.toNat_natCast, List.getD_eq_getElem?_getD, List.getD_eq_getElem?_getD, List.getElem?_map, List.getElem?_eq_getElem h]
  rfl
theorem path_size {s : ByteArray} (h : pathB s = true) : s.size ≤ 400 := by
  unfold pathB at h
  simp only [Bool.and_eq_true, decide_eq_true_eq] at h
  exact h.1
def closedB (s : ByteArray) : Bool := pathB s && ((ptAt s s.size).1 == 0 && ((ptAt s s.size).2 == 0))
end Go.Proofs.YtckmmpknaengjaaDoor.Q
end
section
namespace Go.Proofs.YtckmmpknaengjaaDoor.Q
open Go.RowKit Go.Proofs.YtckmmpknaengjaaDoor.Px Go.Proofs.YtckmmpknaengjaaDoor.Giv Go.Proofs.YtckmmpknaengjaaDoorW.PrintWords Go.Proofs.YtckmmpknaengjaaDoorW.PrintLast Go.Proofs.YtckmmpknaengjaaDoorW.PrintMore
set_option linter.unusedVariables false
set_option linter.unusedSimpArgs false
theorem least_mn_c (a b : Int) : spec_l1Least.f a b = some (mn a b) := by
  unfold spec_l1Least.f mn
  by_cases h : a < b
  · rw [if_pos h, if_neg (by omega)]
  · rw [if_neg h]
    by_cases h2 : b < a
    · rw [if_pos h2]
    · rw [if_neg h2]; congr 1; omega
theorem nail_f (a : Int) : impl_isNail.f a = some (decide (1 ≤ a ∧ a ≤ 6)) := by
  unfold impl_isNail.f
  by_cases h : a ≥ 1
  · rw [if_pos h]
    congr 1
    rw [decide_eq_decide]
    omega
  · rw [if_neg h, decide_eq_false (by omega)]
def asd (s : ByteArray) (i : Nat) : Bool := decide (bt s (i : Int) = 108) || (bt s (i : Int) == 114)
theorem aside_f (b : Int) : impl_isAside.f b = some (decide (b = 108) || (b == 114)) := by
  unfold impl_isAside.f
  by_cases h : b = 108
  · rw [if_pos h, decide_eq_true h, Bool.true_or]
  · rw [if_neg h, decide_eq_false h, Bool.false_or]
theorem letters_at (s : ByteArray) : ∀ (d i : Nat), lettersFrom s d i = true → ∀ j, i ≤ j → j < i + d → okc (bt s (j : Int)) = true
  | 0, i, _, j, h1, h2 => by omega
  | d + 1, i, h, j, h1, h2 => by
    simp only [lettersFrom, Bool.and_eq_true] at h
    by_cases hj : j = i
    · subst hj; exact h.1
    · exact letters_at s d (i + 1) h.2 j (by omega) (by omega)
theorem path_letters {s : ByteArray} (h : pathB s = true) : ∀ j, j < s.size → okc (bt s (j : Int)) = true := by
  intro j hj
  unfold pathB at h
  rw [good_parts] at h
  simp only [Bool.and_eq_true] at h
  exact letters_at s s.size 0 h.2.1 j (by omega) (by omega)
theorem dy_aside (b : Int) (h : okc b = true) : (dyc b == 0) = (decide (b = 108) || (b == 114)) := by
  unfold okc at h
  simp only [Bool.or_eq_true, decide_eq_true_eq] at h
  rcases h with ((h | h) | h) | h <;> subst h <;> rfl
def cornB (s : ByteArray) (i : Nat) : Bool := decide (i + 1 < s.size) && (asd s i != asd s (i + 1))
def freeC (s : ByteArray) (i : Nat) : Bool := !decide (mn (ptAt s i).2 (ptAt s (i + 2)).2 = 0) || !decide (1 ≤ mn (ptAt s i).1 (ptAt s (i + 2)).1 ∧ mn (ptAt s i).1 (ptAt s (i + 2)).1 ≤ 6)
theorem w2 (i : Nat) (h : i ≤ 100000) : wrap64 ((i : Int) + 2) = ((i + 2 : Nat) : Int) := by have h_ := wrap_id ((i : Int) + 2) (by omega) (by omega); omega
theorem w1 (i : Nat) (h : i ≤ 100000) : wrap64 ((i : Int) + 1) = ((i + 1 : Nat) : Int) := by have h_ := wrap_id ((i : Int) + 1) (by omega) (by omega); omega
theorem wm2 (n : Nat) (h : n ≤ 100000) : wrap64 ((n : Int) - 2) = (n : Int) - 2 := wrap_id _ (by omega) (by omega)
theorem spec_corner_f {s : ByteArray} (hp : pathB s = true) (i : Nat) (hi : i ≤ 100000) (k : Nat) (hk : s.size + 1 < k) : spec_l10Corner.f k s (i : Int) = some (cornB s i) := by
  have hs := path_size hp
  obtain ⟨k, rfl⟩ : ∃ m, k = m + 1 := ⟨k - 1, by omega⟩
  have g1 := path_letters hp
  unfold spec_l10Corner.f cornB
  rw [spec_IsPath_f s (k + 1) (by omega), hp, Option.bind_some, if_pos rfl, wm2 s.size (by omega), in_f, Option.bind_some, spec_l10Corner.j0]
  by_cases h : i + 1 < s.size
  · have e : decide ((0 : Int) ≤ (i : Int) ∧ (i : Int) ≤ (s.size : Int) - 2) = true := decide_eq_true (by omega)
    have t1 : (i : Int) < (s.size : Int) := by omega
    have t2 : ((i + 1 : Nat) : Int) < (s.size : Int) := by omega
    have t3 : (0 : Int) ≤ (i : Int) := by omega
    have t4 : (0 : Int) ≤ ((i + 1 : Nat) : Int) := by omega
    rw [e, decide_eq_true h, if_neg (by simp), if_pos t3, if_pos t1, step_f, Option.bind_some, w1 i (by omega), if_pos t4, if_pos t2, step_f, Option.bind_some]
    simp only [Bool.true_and]
    rw [dy_aside _ (g1 i (by omega)), dy_aside _ (g1 (i + 1) h)]
    rfl
  · have e : decide ((0 : Int) ≤ (i : Int) ∧ (i : Int) ≤ (s.size : Int) - 2) = false := decide_eq_false (by omega)
    rw [e, decide_eq_false h, if_pos (show (!false) = true from rfl)]
    rfl
theorem spec_corner_neg {s : ByteArray} (i : Int) (hi : i < 0) (hs : s.size ≤ 1048576) (k : Nat) (hk : s.size + 1 < k) : spec_l10Corner.f k s i = some false := by
  obtain ⟨k, rfl⟩ : ∃ m, k = m + 1 := ⟨k - 1, by omega⟩
  unfold spec_l10Corner.f
  rw [spec_IsPath_f s (k + 1) (by omega), Option.bind_some]
  cases pathB s with
  | false => rw [if_neg (by simp), spec_l10Corner.j0, if_pos rfl]
  | true =>
    have e : wrap64 ((s.size : Int) - 2) = (s.size : Int) - 2 := wrap_id _ (by omega) (by omega)
    rw [if_pos rfl, e, in_f, decide_eq_false (by omega), Option.bind_some, spec_l10Corner.j0, if_pos (show (!false) = true from rfl)]
theorem spec_free_f {s : ByteArray} (hp : pathB s = true) (i : Nat) (hi : i + 1 < s.size) (k : Nat) (hk : s.size + 1 < k) : spec_l10Free.f k s (i : Int) = some (freeC s i) := by
  have hs := path_size hp
  have hl := pts_length s
  have hl2 : ((pts s).map mkA).length = (pts s).length := List.length_map _
  obtain ⟨o, h1, e1⟩ := l10Points_f s k (by omega)
  have t1 : (i : Int) < (((pts s).map mkA).length : Int) := by omega
  have t2 : ((i + 2 : Nat) : Int) < (((pts s).map mkA).length : Int) := by omega
  have t3 : (0 : Int) ≤ (i : Int) := by omega
  have t4 : (0 : Int) ≤ ((i + 2 : Nat) : Int) := by omega
  unfold spec_l10Free.f freeC
  rw [h1, Option.bind_some, e1 hp, if_pos t3, if_pos t1, w2 i (by omega), if_pos t4, if_pos t2, rdA s i (by omega), rdA s (i + 2) (by omega), least_mn_c, Option.bind_some, least_mn_c, Option.bind_some]
  show (if mn (ptAt s i).2 (ptAt s (i + 2)).2 = 0 then _ else _) = _
  by_cases h : mn (ptAt s i).2 (ptAt s (i + 2)).2 = 0
  · rw [if_pos h, decide_eq_true h, in_f, Option.bind_some]
    rfl
  · rw [if_neg h, decide_eq_false h]
    rfl
theorem impl_corner_f {s : ByteArray} (hp : pathB s = true) (i : Nat) (hi : i ≤ 100000) : impl_corner.f s ((pts s).map mkP) (i : Int) = some (cornB s i, cornB s i && freeC s i) := by
  have hs := path_size hp
  have hl := pts_length s
  have hl2 : ((pts s).map mkP).length = (pts s).length := List.length_map _
  unfold impl_corner.f
  have u0 : ¬ (i : Int) < 0 := by omega
  rw [if_neg u0, wm2 s.size (by omega)]
  by_cases h : i + 1 < s.size
  · have t0 : ¬ (i : Int) > (s.size : Int) - 2 := by omega
    have t1 : (i : Int) < (s.size : Int) := by omega
    have t2 : ((i + 1 : Nat) : Int) < (s.size : Int) := by omega
    have t3 : (0 : Int) ≤ (i : Int) := by omega
    have t4 : (0 : Int) ≤ ((i + 1 : Nat) : Int) := by omega
    have t5 : (i : Int) < (((pts s).map mkP).length : Int) := by omega
    have t6 : ((i + 2 : Nat) : Int) < (((pts s).map mkP).length : Int) := by omega
    have t7 : (0 : Int) ≤ ((i + 2 : Nat) : Int) := by omega
    have q1 := rdP s i (by omega)
    have q2 := rdP s (i + 2) (by omega)
    rw [if_neg t0, if_pos t3, if_pos t1, aside_f, Option.bind_some, w1 i (by omega), if_pos t4, if_pos t2, aside_f, Option.bind_some]
    have hc : cornB s i = (asd s i != asd s (i + 1)) := by unfold cornB; rw [decide_eq_true h, Bool.true_and]
    cases hq : asd s i == asd s (i + 1) with
    | true =>
      have hc2 : cornB s i = false := by rw [hc]; simpa using hq
      rw [if_pos (show ((decide (bt s (i : Int) = 108) || (bt s (i : Int) == 114)) == (decide (bt s ((i + 1 : Nat) : Int) = 108) || (bt s ((i + 1 : Nat) : Int) == 114))) = true from hq), hc2]
      rfl
    | false =>
      have hc2 : cornB s i = true := by rw [hc]; simpa using hq
      rw [if_neg (show ¬ ((decide (bt s (i : Int) = 108) || (bt s (i : Int) == 114)) == (decide (bt s ((i + 1 : Nat) : Int) = 108) || (bt s ((i + 1 : Nat) : Int) == 114))) = true from (by unfold asd at hq; rw [hq]; simp)), if_pos t5, w2 i (by omega), if_pos t7, if_pos t6, q1, q2, hc2, Bool.true_and]
      unfold freeC
      show (if mn (ptAt s i).2 (ptAt s (i + 2)).2 = 0 then _ else _) = _
      by_cases hz : mn (ptAt s i).2 (ptAt s (i + 2)).2 = 0
      · rw [if_pos hz, decide_eq_true hz, nail_f, Option.bind_some]
        rfl
      · rw [if_neg hz, decide_eq_false hz]
        rfl
  · have t0 : (i : Int) > (s.size : Int) - 2 := by omega
    have hc2 : cornB s i = false := by unfold cornB; rw [decide_eq_false h]; rfl
    rw [if_pos t0, hc2]
    rfl
end Go.Proofs.YtckmmpknaengjaaDoor.Q
end
section
namespace Go.Proofs.YtckmmpknaengjaaDoor.Q
open Go.RowKit Go.Proofs.YtckmmpknaengjaaDoor.Px Go.Proofs.YtckmmpknaengjaaDoor.Giv Go.Proofs.YtckmmpknaengjaaDoorW.PrintWords Go.Proofs.YtckmmpknaengjaaDoorW.PrintLast Go.Proofs.YtckmmpknaengjaaDoorW.PrintMore
set_option linter.unusedVariables false
set_option linter.unusedSimpArgs false
def BLp (s : ByteArray) : List UInt8 := s.data.toList
theorem BLp_inj {a b : ByteArray} (h : BLp a = BLp b) : a = b := ByteArray.ext (Array.ext' h)
theorem BLp_append (a b : ByteArray) : BLp (a ++ b) = BLp a ++ BLp b := by unfold BLp; rw [ByteArray.data_append, Array.toList_append]
theorem BLp_len (a : ByteArray) : (BLp a).length = a.size := by unfold BLp; simp
theorem BLp_extract (a : ByteArray) (i j : Nat) : BLp (a.extract i j) = ((BLp a).drop i).take (j - i) := by
  unfold BLp
  rw [ByteArray.data_extract, Array.toList_extract, List.extract_eq_take_drop]
theorem strOf_list (l : List UInt8) : BLp (strOfNums (l.map fun b => (b.toNat : Int))) = l := by
  unfold BLp strOfNums
  simp [List.map_map, Function.comp_def]
theorem bytes_list (s : ByteArray) : bytesOf s = (BLp s).map fun b => (b.toNat : Int) := rfl
theorem bt_list (s : ByteArray) (i : Nat) (h : i < (BLp s).length) : bt s (i : Int) = (((BLp s)[i]).toNat : Int) := by
  obtain ⟨b, hb, hv⟩ := bt_data s i (by rw [← BLp_len]; exact h)
  have hb' : (BLp s)[i]? = some b := hb
  rw [List.getElem?_eq_getElem h] at hb'
  rw [hv, ← Option.some.inj hb']
theorem swap_list {α : Type} (l : List α) (i : Nat) (h : i + 1 < l.length) : (l.set i (l[i + 1])).set (i + 1) (l[i]'(by omega)) = l.take i ++ [l[i + 1]] ++ [l[i]'(by omega)] ++ l.drop (i + 2) := by
  apply List.ext_getElem?
  intro j
  rw [List.getElem?_set, List.getElem?_set]
  simp only [List.length_set]
  by_cases h1 : i + 1 = j
  · subst h1
    rw [if_pos rfl, if_pos h]
    simp [List.getElem?_append, List.length_take, Nat.min_eq_left (by omega : i ≤ l.length)]
  · rw [if_neg h1]
    by_cases h2 : i = j
    · subst h2
      rw [if_pos rfl, if_pos (by omega)]
      simp [List.getElem?_append, List.length_take, Nat.min_eq_left (by omega : i ≤ l.length)]
    · rw [if_neg h2]
      rcases Nat.lt_or_ge j i with h3 | h3
      · simp [List.getElem?_append, List.length_take, Nat.min_eq_left (by omega : i ≤ l.length), h3, List.getElem?_take, show j < i + 1 by omega, show j < i + 1 + 1 by omega]
      · have h4 : i + 2 ≤ j := by omega
        obtain ⟨q, rfl⟩ : ∃ q, j = i + 2 + q := ⟨j - (i + 2), by omega⟩
        rw [List.getElem?_append_right (by simp [Nat.min_eq_left (by omega : i ≤ l.length)])]
        simp [Nat.min_eq_left (by omega : i ≤ l.length)]
theorem push_is (s : ByteArray) (i : Nat) (h : i + 1 < s.size) : pushT s i = ((s.extract 0 i ++ s.extract (i + 1) (i + 2)) ++ s.extract i (i + 1)) ++ s.extract (i + 2) s.size := by
  have hl : (BLp s).length = s.size := BLp_len s
  have b0 := bt_list s i (by omega)
  have b1 := bt_list s (i + 1) (by omega)
  have e : ((i : Int) + 1) = ((i + 1 : Nat) : Int) := by omega
  apply BLp_inj
  unfold pushT
  rw [e, b0, b1, bytes_list]
  have m1 : ∀ (l : List UInt8) (j : Nat) (b : UInt8), (l.map fun b => (b.toNat : Int)).set j (b.toNat : Int) = (l.set j b).map fun b => (b.toNat : Int) := by
    intro l j b
    rw [List.map_set]
  rw [m1, m1, strOf_list, swap_list (BLp s) i (by omega)]
  simp only [BLp_append, BLp_extract]
  have t1 : ∀ j (hj : j < s.size), ((BLp s).drop j).take (j + 1 - j) = [(BLp s)[j]'(by omega)] := by
    intro j hj
    rw [List.drop_eq_getElem_cons (by omega), show j + 1 - j = 1 by omega]
    rfl
  rw [t1 i (by omega), show i + 2 - (i + 1) = i + 1 + 1 - (i + 1) by omega, t1 (i + 1) (by omega), List.drop_zero, Nat.sub_zero, List.take_of_length_le (l := (BLp s).drop (i + 2)) (by rw [List.length_drop]; omega)]
theorem spec_corner_big {s : ByteArray} (hs : s.size ≤ 400) (i : Int) (hi : 100000 < i) (k : Nat) (hk : s.size + 1 < k) : spec_l10Corner.f k s i = some false := by
  obtain ⟨k, rfl⟩ : ∃ m, k = m + 1 := ⟨k - 1, by omega⟩
  unfold spec_l10Corner.f
  rw [spec_IsPath_f s (k + 1) (by omega), Option.bind_some]
  cases pathB s with
  | false => rw [if_neg (by simp), spec_l10Corner.j0, if_pos rfl]
  | true =>
    rw [if_pos rfl, wm2 s.size (by omega), in_f, decide_eq_false (by omega), Option.bind_some, spec_l10Corner.j0, if_pos (show (!false) = true from rfl)]
theorem impl_corner_out {s : ByteArray} (hs : s.size ≤ 400) (ps : List S54) (i : Int) (hi : i < 0 ∨ 100000 < i) : impl_corner.f s ps i = some (false, false) := by
  unfold impl_corner.f
  rcases hi with h | h
  · rw [if_pos h]
  · have h1 : ¬ i < 0 := by omega
    have h2 : i > (s.size : Int) - 2 := by omega
    rw [if_neg h1, wm2 s.size (by omega), if_pos h2]
theorem PushCorner_agree (s : ByteArray) (a : Int) (hl : s.size ≤ 1048576) : ∃ K r1 r2 r3, ∀ k, K ≤ k → spec_PushCorner.f k s a = some (r1, r2, r3) ∧ impl_PushCorner.f k s a = some (r1, r2, r3) := by
  obtain ⟨K, hK⟩ : ∃ K, K = 2 * s.size + 10 := ⟨_, rfl⟩
  have no : (∀ k, K ≤ k → spec_l10Corner.f k s a = some false ∧ impl_PushCorner.f k s a = some (⟨#[]⟩, false, false)) → ∃ K r1 r2 r3, ∀ k, K ≤ k → spec_PushCorner.f k s a = some (r1, r2, r3) ∧ impl_PushCorner.f k s a = some (r1, r2, r3) := by
    intro h
    refine ⟨K, ⟨#[]⟩, false, false, fun k hk => ⟨?_, (h k hk).2⟩⟩
    unfold spec_PushCorner.f
    rw [(h k hk).1, Option.bind_some, if_neg (by simp)]
  cases hp : pathB s with
  | false =>
    refine no fun k hk => ⟨?_, ?_⟩
    · obtain ⟨k, rfl⟩ : ∃ m, k = m + 1 := ⟨k - 1, by omega⟩
      unfold spec_l10Corner.f
      rw [spec_IsPath_f s (k + 1) (by omega), hp, Option.bind_some, if_neg (by simp), spec_l10Corner.j0, if_pos rfl]
    · obtain ⟨o2, h2, _⟩ := readPath_f s k (by omega)
      unfold impl_PushCorner.f
      rw [h2, hp, Option.bind_some]
      rfl
  | true =>
    have hs := path_size hp
    have hi : ∀ k, K ≤ k → (impl_corner.f s ((pts s).map mkP) a = some (false, false)) → impl_PushCorner.f k s a = some (⟨#[]⟩, false, false) := by
      intro k hk h
      obtain ⟨o2, h2, e2⟩ := readPath_f s k (by omega)
      unfold impl_PushCorner.f
      rw [h2, hp, Option.bind_some, if_pos rfl, e2 hp, h, Option.bind_some]
      rfl
    by_cases h0 : a < 0
    · exact no fun k hk => ⟨spec_corner_neg a h0 (by omega) k (by omega), hi k hk (impl_corner_out hs _ a (.inl h0))⟩
    · by_cases hb : 100000 < a
      · exact no fun k hk => ⟨spec_corner_big hs a hb k (by omega), hi k hk (impl_corner_out hs _ a (.inr hb))⟩
      · obtain ⟨i, rfl⟩ := Int.eq_ofNat_of_zero_le (show 0 ≤ a by omega)
        have hi2 : i ≤ 100000 := by omega
        cases hc : cornB s i with
        | false => exact no fun k hk => ⟨by rw [spec_corner_f hp i hi2 k (by omega), hc], hi k hk (by rw [impl_corner_f hp i hi2, hc]; rfl)⟩
        | true =>
          have hn : i + 1 < s.size := by
            unfold cornB at hc
            simp only [Bool.and_eq_true, decide_eq_true_eq] at hc
            exact hc.1
          refine ⟨K, pushT s i, freeC s i, true, fun k hk => ⟨?_, ?_⟩⟩
          · have t1 : ((i : Nat) : Int) ≤ (s.size : Int) := by omega
            have t2 : (0 : Int) ≤ ((i + 1 : Nat) : Int) := by omega
            have t3 : ((i + 1 : Nat) : Int) ≤ ((i + 2 : Nat) : Int) := by omega
            have t4 : ((i + 2 : Nat) : Int) ≤ (s.size : Int) := by omega
            have t5 : ((i : Nat) : Int) ≤ ((i + 1 : Nat) : Int) := by omega
            have t6 : ((i + 1 : Nat) : Int) ≤ (s.size : Int) := by omega
            have t7 : (0 : Int) ≤ ((i + 2 : Nat) : Int) := by omega
            have t0 : (0 : Int) ≤ ((i : Nat) : Int) := by omega
            have u1 : i + ((i + 2) - (i + 1)) ≤ 9223372036854775807 := by omega
            have u2 : i + ((i + 2) - (i + 1)) + ((i + 1) - i) ≤ 9223372036854775807 := by omega
            have u3 : i + ((i + 2) - (i + 1)) + ((i + 1) - i) + (s.size - (i + 2)) ≤ 9223372036854775807 := by omega
            unfold spec_PushCorner.f
            rw [spec_corner_f hp i hi2 k (by omega), hc, Option.bind_some, if_pos rfl, w1 i hi2, w2 i hi2]
            simp only [Int.toNat_natCast]
            rw [if_pos t0, if_pos t1, if_pos t2, if_pos t3, if_pos t4, if_pos u1, if_pos t5, if_pos t6, if_pos u2, if_pos t7, if_pos u3, spec_free_f hp i hn k (by omega), Option.bind_some, push_is s i hn]
          · obtain ⟨o2, h2, e2⟩ := readPath_f s k (by omega)
            unfold impl_PushCorner.f
            have c0 : 0 ≤ ((i : Nat) : Int) ∧ ((i : Nat) : Int) + 1 < (s.size : Int) ∧ s.size ≤ 1000000 := ⟨by omega, by omega, by omega⟩
            rw [h2, hp, Option.bind_some, if_pos rfl, e2 hp, impl_corner_f hp i hi2, hc, Option.bind_some, if_pos rfl, if_pos c0, Int.toNat_natCast, Bool.true_and]
end Go.Proofs.YtckmmpknaengjaaDoor.Q
end
section
namespace Go.Proofs.YtckmmpknaengjaaDoor.Pure
open Go.RowKit Go.Proofs.YtckmmpknaengjaaDoor.Px Go.Proofs.YtckmmpknaengjaaDoor.Giv Go.Proofs.YtckmmpknaengjaaDoorW.PrintWords Go.Proofs.YtckmmpknaengjaaDoorW.PrintLast Go.Proofs.YtckmmpknaengjaaDoor.Q
set_option linter.unusedVariables false
set_option linter.unusedSimpArgs false
theorem obind {A B : Type} (a : A) (f : A → Option B) : (some a).bind f = f a := Eq.trans (Option.bind_some a f) rfl
theorem FnExactPushCorner : laws_FnExactPushCorner.Pure := by
  intro a0 a1 hy0 hy1
  simp only [maxLen] at *
  by_cases hbigs0 : (a0.size : Int) > 1048576
  · exact ⟨0, by simp only [laws_FnExactPushCorner.f, hbigs0, if_true, if_false]⟩
  obtain ⟨K, r1, r2, r3, hA⟩ := PushCorner_agree a0 a1 (by omega)
  obtain ⟨M, hM⟩ : ∃ M, M = K + 1 := ⟨_, rfl⟩
  have hS : ∀ j, spec_PushCorner.f (M + j) a0 a1 = some (r1, r2, r3) := fun j => (hA (M + j) (by omega)).1
  have hI : ∀ j, impl_PushCorner.f (M + j) a0 a1 = some (r1, r2, r3) := fun j => (hA (M + j) (by omega)).2
  clear hA hM
  refine ⟨M + 1, ?_⟩
  simp only [laws_FnExactPushCorner.f, hbigs0, hS, hI, obind, if_true, if_false, bne_self_eq_false, Bool.false_eq_true, eq_self]
end Go.Proofs.YtckmmpknaengjaaDoor.Pure
end
