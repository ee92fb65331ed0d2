-- Written by gprint.py (wip/gprint.py of this repo), out of the translation. Not trusted: Lean checks it.
import Derived.Test.YtgifhmjbmnopcaaPx0
namespace Go.Proofs.Ytgifhmjbmnopcaa.Px
end Go.Proofs.Ytgifhmjbmnopcaa.Px
namespace Go.Proofs.Ytgifhmjbmnopcaa.Giv
end Go.Proofs.Ytgifhmjbmnopcaa.Giv
namespace Go.Proofs.Ytgifhmjbmnopcaa.Px
open Go.Proofs.Ytgifhmjbmnopcaa.Giv
open Go.RowKit Go.Proofs.YtgifhmjbmnopcaaW.PrintWords Go.Proofs.YtgifhmjbmnopcaaW.PrintLast Go.Proofs.YtgifhmjbmnopcaaW.PrintMore
attribute [local go_sem] max2_int min2_int max_two min_two max_three min_three max_four min_four   -- for this text's walks alone
set_option linter.unusedVariables false
set_option linter.unusedSimpArgs false

/-! ### spec_l11Count: function 58 -/
mutual
def spec_l11Count.l0 : Nat → List Int → Int → List (List Int) → Int → Option (Int)
  | 0, _, _, _, _ => none
  | k + 1, x0, x3, x4, x5 => if x5 ≤ x3 then (if 0 ≤ (wrap64 (x3 + 1)) then (if (wrap64 (x3 + 1) : Int).toNat ≤ 35184372088832 then (if x4.length < 5864062014805 then ((some (x4 ++ [(List.replicate (wrap64 (x3 + 1) : Int).toNat 0)] : List (List Int))).bind fun y972 => (if 0 ≤ x5 then (if x5 < (y972.length : Int) then (if 0 < ((rd_L1 y972 x5).length : Int) then (spec_l11Count.l0 k x0 x3 (y972.set (x5 : Int).toNat ((rd_L1 y972 x5).set (0 : Int).toNat 1)) (wrap64 (x5 + 1))) else (none)) else (none)) else (none))) else (none)) else (none)) else (none)) else (spec_l11Count.l1 k x0 x3 x4 2)
def spec_l11Count.l1 : Nat → List Int → Int → List (List Int) → Int → Option (Int)
  | 0, _, _, _, _ => none
  | k + 1, x0, x3, x4, x6 => if x6 ≤ x3 then (spec_l11Count.l2 k x0 x3 x4 x6 0) else (if 0 < (x4.length : Int) then (if 0 ≤ x3 then (if x3 < ((rd_L1 x4 0).length : Int) then (some (rd (rd_L1 x4 0) x3)) else (none)) else (none)) else (none))
def spec_l11Count.l2 : Nat → List Int → Int → List (List Int) → Int → Int → Option (Int)
  | 0, _, _, _, _, _ => none
  | k + 1, x0, x3, x4, x6, x7 => if (wrap64 (x7 + x6)) ≤ x3 then (spec_l11Count.l3 k x0 x3 x4 x6 x7 1) else (spec_l11Count.l1 k x0 x3 x4 (wrap64 (x6 + 2)))
def spec_l11Count.l3 : Nat → List Int → Int → List (List Int) → Int → Int → Int → Option (Int)
  | 0, _, _, _, _, _, _ => none
  | k + 1, x0, x3, x4, x6, x7, x8 => if x8 < x6 then (if 0 ≤ (wrap64 (x7 + x8)) then (if (wrap64 (x7 + x8)) < (x0.length : Int) then (if 0 ≤ x7 then (if x7 < (x0.length : Int) then (if (rd x0 (wrap64 (x7 + x8))) = (wrap64 (-(rd x0 x7))) then (if x7 < (x4.length : Int) then (if 0 ≤ x6 then (if x6 < ((rd_L1 x4 x7).length : Int) then (if 0 ≤ (wrap64 (x7 + 1)) then (if (wrap64 (x7 + 1)) < (x4.length : Int) then (if 0 ≤ (wrap64 (x8 - 1)) then (if (wrap64 (x8 - 1)) < ((rd_L1 x4 (wrap64 (x7 + 1))).length : Int) then (if 0 ≤ (wrap64 ((wrap64 (x7 + x8)) + 1)) then (if (wrap64 ((wrap64 (x7 + x8)) + 1)) < (x4.length : Int) then (if 0 ≤ (wrap64 ((wrap64 (x6 - x8)) - 1)) then (if (wrap64 ((wrap64 (x6 - x8)) - 1)) < ((rd_L1 x4 (wrap64 ((wrap64 (x7 + x8)) + 1))).length : Int) then (spec_l11Count.l3 k x0 x3 (x4.set (x7 : Int).toNat ((rd_L1 x4 x7).set (x6 : Int).toNat (wrap64 ((rd (rd_L1 x4 x7) x6) + (wrap64 ((rd (rd_L1 x4 (wrap64 (x7 + 1))) (wrap64 (x8 - 1))) * (rd (rd_L1 x4 (wrap64 ((wrap64 (x7 + x8)) + 1))) (wrap64 ((wrap64 (x6 - x8)) - 1))))))))) x6 x7 (wrap64 (x8 + 2))) else (none)) else (none)) else (none)) else (none)) else (none)) else (none)) else (none)) else (none)) else (none)) else (none)) else (none)) else (spec_l11Count.l3 k x0 x3 x4 x6 x7 (wrap64 (x8 + 2)))) else (none)) else (none)) else (none)) else (none)) else (spec_l11Count.l2 k x0 x3 x4 x6 (wrap64 (x7 + 1)))
end
def spec_l11Count.f (k : Nat) (l0 : List Int) : Option (Int) := spec_l11Count.l0 k l0 (l0.length : Int) (([] : List (List Int))) 0
theorem spec_l11Count.mono_l : ∀ k, (∀ y0 y1 y2 y3, LeO (spec_l11Count.l0 k y0 y1 y2 y3) (spec_l11Count.l0 (k + 1) y0 y1 y2 y3)) ∧ (∀ y0 y1 y2 y3, LeO (spec_l11Count.l1 k y0 y1 y2 y3) (spec_l11Count.l1 (k + 1) y0 y1 y2 y3)) ∧ (∀ y0 y1 y2 y3 y4, LeO (spec_l11Count.l2 k y0 y1 y2 y3 y4) (spec_l11Count.l2 (k + 1) y0 y1 y2 y3 y4)) ∧ (∀ y0 y1 y2 y3 y4 y5, LeO (spec_l11Count.l3 k y0 y1 y2 y3 y4 y5) (spec_l11Count.l3 (k + 1) y0 y1 y2 y3 y4 y5))
  | 0 => ⟨fun _ _ _ _ r h => by simp [spec_l11Count.l0] at h, fun _ _ _ _ r h => by simp [spec_l11Count.l1] at h, fun _ _ _ _ _ r h => by simp [spec_l11Count.l2] at h, fun _ _ _ _ _ _ r h => by simp [spec_l11Count.l3] at h⟩
  | k + 1 => by
    obtain ⟨ih0, ih1, ih2, ih3⟩ := spec_l11Count.mono_l k
    refine ⟨?_, ?_, ?_, ?_⟩
    · intro y0 y1 y2 y3
      unfold spec_l11Count.l0
      repeat' first
      | (with_reducible exact ih0 _ _ _ _)
      | (with_reducible exact ih1 _ _ _ _)
      | (with_reducible exact ih2 _ _ _ _ _)
      | (with_reducible exact ih3 _ _ _ _ _ _)
      | (with_reducible exact LeO.refl _)
      | (with_reducible exact LeO.none _)
      | (with_reducible refine LeO.ite ?_ ?_)
      | (with_reducible refine LeO.bind ?_ (fun _ => ?_))
      | exact ih0 _ _ _ _
      | exact ih1 _ _ _ _
      | exact ih2 _ _ _ _ _
      | exact ih3 _ _ _ _ _ _
      | exact LeO.none _
      | refine LeO.ite ?_ ?_
      | refine LeO.bind ?_ (fun _ => ?_)
    · intro y0 y1 y2 y3
      unfold spec_l11Count.l1
      repeat' first
      | (with_reducible exact ih0 _ _ _ _)
      | (with_reducible exact ih1 _ _ _ _)
      | (with_reducible exact ih2 _ _ _ _ _)
      | (with_reducible exact ih3 _ _ _ _ _ _)
      | (with_reducible exact LeO.refl _)
      | (with_reducible exact LeO.none _)
      | (with_reducible refine LeO.ite ?_ ?_)
      | (with_reducible refine LeO.bind ?_ (fun _ => ?_))
      | exact ih0 _ _ _ _
      | exact ih1 _ _ _ _
      | exact ih2 _ _ _ _ _
      | exact ih3 _ _ _ _ _ _
      | exact LeO.none _
      | refine LeO.ite ?_ ?_
      | refine LeO.bind ?_ (fun _ => ?_)
    · intro y0 y1 y2 y3 y4
      unfold spec_l11Count.l2
      repeat' first
      | (with_reducible exact ih0 _ _ _ _)
      | (with_reducible exact ih1 _ _ _ _)
      | (with_reducible exact ih2 _ _ _ _ _)
      | (with_reducible exact ih3 _ _ _ _ _ _)
      | (with_reducible exact LeO.refl _)
      | (with_reducible exact LeO.none _)
      | (with_reducible refine LeO.ite ?_ ?_)
      | (with_reducible refine LeO.bind ?_ (fun _ => ?_))
      | exact ih0 _ _ _ _
      | exact ih1 _ _ _ _
      | exact ih2 _ _ _ _ _
      | exact ih3 _ _ _ _ _ _
      | exact LeO.none _
      | refine LeO.ite ?_ ?_
      | refine LeO.bind ?_ (fun _ => ?_)
    · intro y0 y1 y2 y3 y4 y5
      unfold spec_l11Count.l3
      repeat' first
      | (with_reducible exact ih0 _ _ _ _)
      | (with_reducible exact ih1 _ _ _ _)
      | (with_reducible exact ih2 _ _ _ _ _)
      | (with_reducible exact ih3 _ _ _ _ _ _)
      | (with_reducible exact LeO.refl _)
      | (with_reducible exact LeO.none _)
      | (with_reducible refine LeO.ite ?_ ?_)
      | (with_reducible refine LeO.bind ?_ (fun _ => ?_))
      | exact ih0 _ _ _ _
      | exact ih1 _ _ _ _
      | exact ih2 _ _ _ _ _
      | exact ih3 _ _ _ _ _ _
      | exact LeO.none _
      | refine LeO.ite ?_ ?_
      | refine LeO.bind ?_ (fun _ => ?_)
theorem spec_l11Count.mono : ∀ a0 k, LeO (spec_l11Count.f k a0) (spec_l11Count.f (k + 1) a0) := by
  intro a0 k
  obtain ⟨ih0, ih1, ih2, ih3⟩ := spec_l11Count.mono_l k
  unfold spec_l11Count.f
  repeat' first
      | (with_reducible exact ih0 _ _ _ _)
      | (with_reducible exact ih1 _ _ _ _)
      | (with_reducible exact ih2 _ _ _ _ _)
      | (with_reducible exact ih3 _ _ _ _ _ _)
      | (with_reducible exact LeO.refl _)
      | (with_reducible exact LeO.none _)
      | (with_reducible refine LeO.ite ?_ ?_)
      | (with_reducible refine LeO.bind ?_ (fun _ => ?_))
      | exact ih0 _ _ _ _
      | exact ih1 _ _ _ _
      | exact ih2 _ _ _ _ _
      | exact ih3 _ _ _ _ _ _
      | exact LeO.none _
      | refine LeO.ite ?_ ?_
      | refine LeO.bind ?_ (fun _ => ?_)
def spec_l11Count.T17 : Bool × List (List Nat × List Nat) := (true, [([], []), ([], []), ([], []), ([1, 2], [1, 2]), ([0, 3], [0, 3]), ([4], [4]), ([], []), ([], []), ([6, 7], [6, 7]), ([8], [8]), ([9], [9]), ([5, 10], [5, 10])])
def spec_l11Count.B17 : List Nat := [0, 0, 0, 6, 15, 31, 0, 0, 192, 448, 960, 2047]
theorem spec_l11Count.tab17 : rtab .any (opsOf Try.f58 17) = spec_l11Count.T17 := by kernel_rfl
theorem spec_l11Count.bits17 : waitsOk spec_l11Count.T17.2 spec_l11Count.B17 = true := by kernel_rfl
def spec_l11Count.T18 : Bool × List (List Nat × List Nat) := (true, [([], []), ([], []), ([0, 1], [0, 1]), ([2], [2]), ([], []), ([], []), ([], []), ([5, 6], [5, 6]), ([7], [7]), ([], []), ([8, 9], [8, 9]), ([10], [10]), ([], []), ([], []), ([13], [13]), ([12, 14], [12, 14]), ([15], [15]), ([], []), ([17], [17]), ([16, 18], [16, 18]), ([19], [19]), ([], []), ([], []), ([], []), ([22, 23], [22, 23]), ([24], [24]), ([21, 25], [21, 25]), ([26], [26]), ([], []), ([], []), ([28, 29], [28, 29]), ([30], [30]), ([27, 31], [27, 31]), ([32], [32]), ([20, 33], [20, 33]), ([11, 34], [11, 34]), ([3, 4, 0, 1, 2, 3, 4, 5, 6, 7, 8, 9, 10, 11, 12, 13, 14, 15, 16, 17, 18, 19, 20, 21, 22, 23, 24, 25, 26, 27, 28, 29, 30, 31, 32, 33, 34, 35], [3, 4]), ([36, 35, 0, 1, 2, 3, 4, 5, 6, 7, 8, 9, 10, 11, 12, 13, 14, 15, 16, 17, 18, 19, 20, 21, 22, 23, 24, 25, 26, 27, 28, 29, 30, 31, 32, 33, 34, 35], [35, 36])])
def spec_l11Count.B18 : List Nat := [0, 0, 3, 7, 0, 0, 0, 96, 224, 0, 992, 2016, 0, 0, 8192, 28672, 61440, 0, 131072, 520192, 1044480, 0, 0, 0, 12582912, 29360128, 65011712, 132120576, 0, 0, 805306368, 1879048192, 4292870144, 8587837440, 17179865088, 34359738336, 68719476735, 137438953471]
theorem spec_l11Count.tab18 : rtab .any (opsOf Try.f58 18) = spec_l11Count.T18 := by kernel_rfl
theorem spec_l11Count.bits18 : waitsOk spec_l11Count.T18.2 spec_l11Count.B18 = true := by kernel_rfl
set_option maxHeartbeats 8000000 in
set_option maxRecDepth 100000 in
theorem spec_l11Count.calls (k : Nat) (A0 : Option Addr) (c0 : Nat) (l0 : List Int) (r : Int) (w : World) (hr0 : Kd.C (Kd.int .i64) w A0 l0.length l0) (hc0 : l0.length ≤ c0) (h : spec_l11Count.f k l0 = some r) :
    Calls Try.prog 58 #[.slice A0 l0.length c0] w fun e w' => e = .returned (.int .i64 r) ∧ Below w.heap.size w w' := by
  have HR0 := Aside0.mk hr0
  have HC0 := Aside0.mk hc0
  clear hr0 hc0
  have HB := Aside0.mk (Below.refl w.heap.size w)
  have H : (spec_l11Count.l0 k l0 (l0.length : Int) (([] : List (List Int))) 0) = some r := h
  clear h
  obtain ⟨y966, hy966⟩ : ∃ y_ : List (List Int), y_ = (([] : List (List Int))) := ⟨_, rfl⟩
  replace H : (spec_l11Count.l0 k l0 (l0.length : Int) y966 0) = some r := by first | (rw [hy966]; with_reducible exact H) | (have H2_ := (Option.bind_some _ _).symm.trans H; rw [hy966]; with_reducible exact H2_) | (have H2_ := (Option.bind_some _ _).symm.trans H; with_reducible exact H2_) | with_reducible exact H | (rw [hy966]; exact H) | exact H
  have Ny966 := Aside0.mk hy966
  clear hy966
  have H' := Aside0.mk H
  clear H
  go_enter Try.func58, Try.ntmps58
  go_wp2_with (first | ((with_reducible refine gate_dst (N := 11) rfl ?_); refine Kd.S_lit (Kd.slice 3 (Kd.int .i64)) _ 22 ?hg (N := 11) ?hd (xs := ([] : List (List Int))) (inner := []) (ok := fun _ => True) (okp := fun _ => True) ?hr ?hp (fun _ hk => hk) trivial (Below.refl _ _) (Nat.le_refl _) (by simp) ?_; (case hd => rfl); (case hg => rfl); (case hr => first | (go_simp; done) | (go_simp; rfl)); (case hp => exact (Reps.none _ _)); intro v967 w2 ho3 hb hg_ hnew_; clear hg_ hnew_; (first | rw [← Ny966.out] at ho3 | (simp only [Int.reduceToNat] at ho3; rw [← Ny966.out] at ho3)); have n0_ := Aside0.mk (Kd.S_lower ho3 (below_size (by repeat (first | (with_reducible first | exact HB.out | apply below_alloc | apply pw_below_drewN | apply below_drew1) | exact HB.out)))); have n1_ := Aside0.mk (below_step (by repeat (first | (with_reducible first | exact HB.out | apply below_alloc | apply pw_below_drewN | apply below_drew1) | exact HB.out)) hb); clear HB; have HO968 := n0_; have HB := n1_; clear n0_ n1_; clear hb ho3))
  go_loopg [4, 5] k (fun kq v4 v5 w' => ∃ (x4_1 : List (List Int)) (x5_1 : Int), v5 = .int .i64 x5_1 ∧ Aside0 (spec_l11Count.l0 kq l0 (l0.length : Int) x4_1 x5_1 = some r) ∧ Aside0 (kq ≤ k) ∧ Aside0 (Kd.S (Kd.slice 3 (Kd.int .i64)) 22 w' w.heap.size (fun _ => True) v4 x4_1) ∧ Aside0 (Below w.heap.size w w'))
  case atStart => exact ⟨(y966), (0), (by first | rfl | (simp; done) | (simp [*]; done) | (generalize ByteArray.toList _ = l_; cases l_ <;> rfl)), H', ⟨Nat.le_refl _⟩, ⟨by (with_reducible repeat (first | apply Kd.S_alloc | apply Kd.S_drewN | apply Kd.S_drew)); exact HO968.out⟩, ⟨by repeat (first | (with_reducible first | exact HB.out | apply below_alloc | apply pw_below_drewN | apply below_drew1) | exact HB.out)⟩⟩
  case round =>
    clear H'
    try clear p2
    obtain ⟨x4_1, x5_1, rfl, HA, HK1, HO_4, HB⟩ := hrel
    cases gk with
    | zero => exact absurd HA.out (by simp [spec_l11Count.l0])
    | succ k1 =>
      have H := HA.out
      clear HA
      simp only [spec_l11Count.l0] at H
      by_cases c4 : x5_1 ≤ (l0.length : Int)
      · rw [if_pos c4] at H
        have c4b0 : decide (x5_1 ≤ (l0.length : Int)) = true := decide_eq_true c4
        clear c4
        obtain ⟨ji5, hji5⟩ : ∃ j_ : Int, (wrap64 ((l0.length : Int) + 1)) = j_ := ⟨_, rfl⟩
        replace H : (if 0 ≤ (ji5) then (if (ji5 : Int).toNat ≤ 35184372088832 then (if x4_1.length < 5864062014805 then ((some (x4_1 ++ [(List.replicate (ji5 : Int).toNat 0)] : List (List Int))).bind fun y972 => (if 0 ≤ x5_1 then (if x5_1 < (y972.length : Int) then (if 0 < ((rd_L1 y972 x5_1).length : Int) then (spec_l11Count.l0 k1 l0 (l0.length : Int) (y972.set (x5_1 : Int).toNat ((rd_L1 y972 x5_1).set (0 : Int).toNat 1)) (wrap64 (x5_1 + 1))) else (none)) else (none)) else (none))) else (none)) else (none)) else (none)) = some r := by first | (rw [hji5] at H; exact H) | (simp only [hji5] at H ⊢; exact H)
        have hji5w : (IntKind.i64.wrap ((l0.length : Int) + 1)) = ji5 := (i64_w _).trans hji5
        by_cases c6 : 0 ≤ (ji5)
        · rw [if_pos c6] at H
          have c6b0 := eq_true c6
          have c6b1 : decide (0 ≤ (ji5)) = true := decide_eq_true c6
          clear c6
          by_cases c7 : (ji5 : Int).toNat ≤ 35184372088832
          · rw [if_pos c7] at H
            have c7b0 := eq_true c7
            have c7b1 : decide ((ji5 : Int).toNat ≤ 35184372088832) = true := decide_eq_true c7
            clear c7
            obtain ⟨y969, hy969⟩ : ∃ y_ : List Int, y_ = (List.replicate (ji5 : Int).toNat 0) := ⟨_, rfl⟩
            replace H : (if x4_1.length < 5864062014805 then ((some (x4_1 ++ [y969] : List (List Int))).bind fun y972 => (if 0 ≤ x5_1 then (if x5_1 < (y972.length : Int) then (if 0 < ((rd_L1 y972 x5_1).length : Int) then (spec_l11Count.l0 k1 l0 (l0.length : Int) (y972.set (x5_1 : Int).toNat ((rd_L1 y972 x5_1).set (0 : Int).toNat 1)) (wrap64 (x5_1 + 1))) else (none)) else (none)) else (none))) else (none)) = some r := by first | (rw [hy969]; with_reducible exact H) | (have H2_ := (Option.bind_some _ _).symm.trans H; rw [hy969]; with_reducible exact H2_) | (have H2_ := (Option.bind_some _ _).symm.trans H; with_reducible exact H2_) | with_reducible exact H | (rw [hy969]; exact H) | exact H
            have Ny969 := Aside0.mk hy969
            clear hy969
            by_cases c8 : x4_1.length < 5864062014805
            · rw [if_pos c8] at H
              have LMc8 := Aside0.mk c8
              clear c8
              obtain ⟨y972, hy972⟩ : ∃ y_ : List (List Int), y_ = (x4_1 ++ [y969]) := ⟨_, rfl⟩
              replace H : (if 0 ≤ x5_1 then (if x5_1 < (y972.length : Int) then (if 0 < ((rd_L1 y972 x5_1).length : Int) then (spec_l11Count.l0 k1 l0 (l0.length : Int) (y972.set (x5_1 : Int).toNat ((rd_L1 y972 x5_1).set (0 : Int).toNat 1)) (wrap64 (x5_1 + 1))) else (none)) else (none)) else (none)) = some r := by first | (rw [hy972]; with_reducible exact H) | (have H2_ := (Option.bind_some _ _).symm.trans H; rw [hy972]; with_reducible exact H2_) | (have H2_ := (Option.bind_some _ _).symm.trans H; with_reducible exact H2_) | with_reducible exact H | (rw [hy972]; exact H) | exact H
              have Ny972 := Aside0.mk hy972
              clear hy972
              by_cases c9 : 0 ≤ x5_1
              · rw [if_pos c9] at H
                have c9b0 : decide (0 ≤ x5_1) = true := decide_eq_true c9
                clear c9
                by_cases c10 : x5_1 < (y972.length : Int)
                · rw [if_pos c10] at H
                  have c10b0 : decide (x5_1 < (y972.length : Int)) = true := decide_eq_true c10
                  clear c10
                  by_cases c11 : 0 < ((rd_L1 y972 x5_1).length : Int)
                  · rw [if_pos c11] at H
                    have c11b0 : decide (0 < ((rd_L1 y972 x5_1).length : Int)) = true := decide_eq_true c11
                    have c11b1 : decide (0 < (rd_L1 y972 x5_1).length) = true := decide_eq_true (by omega)
                    clear c11
                    obtain ⟨y976, hy976⟩ : ∃ y_ : List Int, y_ = ((rd_L1 y972 x5_1).set (0 : Int).toNat 1) := ⟨_, rfl⟩
                    replace H : (spec_l11Count.l0 k1 l0 (l0.length : Int) (y972.set (x5_1 : Int).toNat y976) (wrap64 (x5_1 + 1))) = some r := by first | (rw [hy976]; with_reducible exact H) | (have H2_ := (Option.bind_some _ _).symm.trans H; rw [hy976]; with_reducible exact H2_) | (have H2_ := (Option.bind_some _ _).symm.trans H; with_reducible exact H2_) | with_reducible exact H | (rw [hy976]; exact H) | exact H
                    have Ny976 := Aside0.mk hy976
                    clear hy976
                    obtain ⟨y978, hy978⟩ : ∃ y_ : List (List Int), y_ = (y972.set (x5_1 : Int).toNat y976) := ⟨_, rfl⟩
                    replace H : (spec_l11Count.l0 k1 l0 (l0.length : Int) y978 (wrap64 (x5_1 + 1))) = some r := by first | (rw [hy978]; with_reducible exact H) | (have H2_ := (Option.bind_some _ _).symm.trans H; rw [hy978]; with_reducible exact H2_) | (have H2_ := (Option.bind_some _ _).symm.trans H; with_reducible exact H2_) | with_reducible exact H | (rw [hy978]; exact H) | exact H
                    have Ny978 := Aside0.mk hy978
                    clear hy978
                    have H' := Aside0.mk H
                    clear H
                    go_wp2_with (first | ((with_reducible refine gate_dst (N := 20) rfl ?_); refine Kd.R_make (Kd.int .i64) _ 3 rfl (N := 20) rfl 22 _ _ rfl ji5 rfl rfl Try.underlying22 (.int .i64 0) 8 info3 rfl (by decide) (by omega) 0 (ok := fun _ => True) (okp := fun _ => True) rfl (fun _ hk => hk) trivial (of_decide_eq_true (by first | (with_reducible assumption) | assumption)) (Nat.le_trans (Nat.mul_le_mul_right _ (of_decide_eq_true (by first | (with_reducible assumption) | assumption) : ji5.toNat ≤ 35184372088832)) (by omega)) (Below.refl _ _) (Nat.le_refl _) ?_; intro v970 w13 ho14 hb hg_ hnew_; clear hg_ hnew_; (first | rw [← Ny969.out] at ho14 | (simp only [Int.reduceToNat] at ho14; rw [← Ny969.out] at ho14)); have n0_ := Aside0.mk (Kd.S_elder' (by (with_reducible repeat (first | apply Kd.S_alloc | apply Kd.S_drewN | apply Kd.S_drew)); exact HO_4.out) (Kd.R_base ho14) hb); have n1_ := Aside0.mk (Kd.R_lower ho14 (below_size (by repeat (first | (with_reducible first | exact HB.out | apply below_alloc | apply pw_below_drewN | apply below_drew1) | exact HB.out)))); have n2_ := Aside0.mk (below_step (by repeat (first | (with_reducible first | exact HB.out | apply below_alloc | apply pw_below_drewN | apply below_drew1) | exact HB.out)) hb); clear HO_4; clear HB; have HO_4 := n0_; have HO971 := n1_; have HB := n2_; clear n0_ n1_ n2_; clear hb ho14; obtain ⟨Ao16, co16, eo16⟩ := Kd.R_slice HO971.out; subst eo16) | ((with_reducible refine gate_builtin (b := .append) (xs := #[.tmp 17, .tmp 21]) rfl ?_); at_builtin; refine Kd.S_append (Kd.slice 3 (Kd.int .i64)) (w0 := w) w.heap.size rfl (.tmp 17) (.tmp 21) 44 22 (.slice none 0 0) 24 rfl Try.underlying44 info22 rfl (by decide) (by omega) u4 x4_1 y969 [.slice Ao16 y969.length co16] (fun _ => True) (fun k_ => some k_ = (.slice Ao16 y969.length co16 : Value).ownBlock) rfl rfl ?aP (fun k_ hk_ => ((Kd.R_mono (ok' := fun k_ => ((fun _ => True)) k_ ∧ some k_ ≠ (u4 : Value).ownBlock) (Kd.R_apart' (HO971.out) (Kd.S_typed HO_4.out) (by decide)) (fun k_ hk => ⟨trivial, hk.2⟩))).1 k_ hk_.symm) ?aF ?aO ?aB ?aS ?aL ?_; (case aP => exact Kd.M_row (Kd.R_mono (Kd.R_tight rfl (Kd.R_mono (ok' := fun k_ => ((fun _ => True)) k_ ∧ some k_ ≠ (u4 : Value).ownBlock) (Kd.R_apart' (HO971.out) (Kd.S_typed HO_4.out) (by decide)) (fun k_ hk => ⟨trivial, hk.2⟩))) (fun _ h_ => h_))); (case aB => exact (by repeat (first | (with_reducible first | exact HB.out | apply below_alloc | apply pw_below_drewN | apply below_drew1) | exact HB.out))); (case aF => exact (fun _ _ => trivial)); (case aO => exact (by (with_reducible repeat (first | apply Kd.S_alloc | apply Kd.S_drewN | apply Kd.S_drew)); exact Kd.S_mono HO_4.out (fun k_ hk => ⟨trivial, fun e_ => hk.2 e_⟩))); (case aS => exact (below_size (by repeat (first | (with_reducible first | exact HB.out | apply below_alloc | apply pw_below_drewN | apply below_drew1) | exact HB.out)))); (case aL => have := LMc8.out; omega); intro v973 w15 ho hb hg hat; rw [← Ny972.out] at ho; have n0_ := Aside0.mk (hb); have n1_ := Aside0.mk (ho); clear HB; clear HO_4; clear HO971; have HB := n0_; have HO974 := n1_; clear n0_ n1_; clear ho hb hg hat; obtain ⟨Ao17, co17, eo17⟩ := Kd.S_slice HO974.out; subst eo17; have p975 : 0 ≤ (x5_1 : Int) := of_decide_eq_true (by first | (with_reducible assumption) | assumption); have q975 : x5_1 < (y972.length : Int) := of_decide_eq_true (by first | (with_reducible assumption) | assumption); obtain ⟨ad975, A975_0, c975_0, e975, hx975_0, hl975_0, hi975_0⟩ := at_L1 (Kd.S_reads' HO974.out).2.2 x5_1 p975 q975; cases e975; obtain ⟨ce975, hce975, hMe975, hcc975⟩ := Kd.S_get HO974.out [] x5_1 p975 (by first | exact q975 | exact of_decide_eq_true (by first | (with_reducible assumption) | assumption) | (have e_ := (Kd.S_reads' HO974.out).1; omega)); obtain ⟨ve975_0, rfl, ge975_0⟩ := hMe975; have hv975_0 := hcc975 0 _ rfl; rw [Nat.add_zero, show ((Kd.slice 3 (Kd.int .i64))).sz = 1 from rfl, Nat.mul_one] at hv975_0; replace hv975_0 := Option.some.inj (hv975_0.symm.trans hx975_0); rw [hv975_0] at ge975_0; have HL975_0 := Aside0.mk (show Kd.R (Kd.int .i64) 3 _ _ _ _ (rd_L1 y972 x5_1) from ge975_0); clear hv975_0 ge975_0; have HX975_0 := Aside0.mk hx975_0; clear hcc975 hce975; have HR975_0 := Aside0.mk hi975_0; have HC975_0 := Aside0.mk hl975_0; clear hi975_0 hl975_0; replace p975 := eq_true p975; replace q975 := eq_true q975; have p12 : 0 ≤ (0 : Int) := (by omega); have q12 : (0 : Int) < (((rd_L1 y972 x5_1).length : Int) : Int) := of_decide_eq_true (by first | (with_reducible assumption) | assumption); have qi12 : (0 < (rd_L1 y972 x5_1).length) = True := eq_true (by omega); obtain ⟨go12, co12, eo12, gb12, gl12, cl12, HG12⟩ := Kd.R_form HL975_0.out (by omega); (first | cases eo12 | (injection eo12 with ea_ en_ ec_; (first | subst ea_ | (injection ea_ with ea_; subst ea_)); subst ec_; clear en_)); have GB12 := Aside0.mk gb12; have GG12 := Aside0.mk HG12; clear gb12 gl12 HG12; obtain ⟨hx12_0, hf12_0⟩ := Kd.R_celln 0 HL975_0.out (0 : Int) p12 q12; (try rw [show ((0 : Int)).toNat = 0 from rfl] at hx12_0); (try simp only [Nat.reduceMul, Nat.zero_mul, Nat.zero_add, Nat.reduceAdd] at hx12_0); (try rw [show ((0 : Int)).toNat = 0 from rfl] at hf12_0); (try simp only [Nat.reduceMul, Nat.zero_mul, Nat.zero_add, Nat.reduceAdd] at hf12_0); replace p12 := eq_true p12; replace q12 := eq_true q12; have hq18 : (x5_1 : Int) < (y972.length : Int) := (by have h_ : (x5_1 : Int) < ((y972.length : Int) : Int) := of_decide_eq_true (by first | (with_reducible assumption) | assumption); first | exact h_ | (have e_ := (Kd.S_reads' HO974.out).1; omega) | simpa only [List.length_set, List.length_set] using h_); obtain ⟨oki18, ce18, hcl18, hM18, hcc18, hok18, hbk18⟩ := Kd.S_borrow HO974.out [] (x5_1 : Int) (of_decide_eq_true (by first | (with_reducible assumption) | assumption)) (by first | exact hq18 | exact of_decide_eq_true (by first | (with_reducible assumption) | assumption)); obtain ⟨ve18_0, rfl, ge18_0⟩ := hM18; have hv18 := hcc18 0 _ rfl; rw [Nat.add_zero, show ((Kd.slice 3 (Kd.int .i64))).sz = 1 from rfl, Nat.mul_one] at hv18; replace hv18 := Option.some.inj (hv18.symm.trans HX975_0.out); subst hv18; clear hcc18 hcl18; replace ge18_0 := (show Kd.R (Kd.int .i64) 3 _ _ _ _ (rd_L1 y972 x5_1) from ge18_0); have HP18 := Kd.R_putg ge18_0 (0 : Int) 1) | ((with_reducible refine gate_store (t := 3) (p := 27) rfl ?_); refine store_event (t := 3) (p := 27) (v := ?vo_w19) (w1 := (w15.setCell ⟨go12, 0, none⟩ (.int .i64 1))) ?hg ?ho ?hn ?hr ?_; (case ho => rfl); (case hg => rfl); (case hn => rfl); (case hr => first | (go_simp; done) | (go_simp; rfl)); intro w19 hw; have hg : w15.grownBy w19 (some go12) := (by rw [hw]; exact HP18.2); have hz_ : Kd.R (Kd.int .i64) 3 w19 w.heap.size oki18 (.slice (some ⟨go12, 0, none⟩) (rd_L1 y972 x5_1).length c975_0) y976 := (by rw [hw, Ny976.out]; exact HP18.1); have hp_ : Kd.S (Kd.slice 3 (Kd.int .i64)) 22 w19 w.heap.size (fun _ => True) (.slice (some ad975) y972.length co17) y978 := (by rw [Ny978.out]; exact hbk18 hg (fun k_ e_ => by injection e_ with e_; subst e_; exact ge18_0.1 _ rfl) (Kd.M_row hz_)); have hm_ := Kd.R_mono hz_ hok18; clear HP18 hbk18; have n0_ := Aside0.mk (hp_); have n1_ := Aside0.mk ((by rw [hw]; exact below_set (HB.out) GB12.out : Below w.heap.size w w19)); have n2_ := Aside0.mk (hm_); have n3_ := Aside0.mk ((Kd.R_reads' hm_).2.1); clear HO974; clear HB; clear HL975_0; have HO974 := n0_; have HB := n1_; have HL993 := n2_; have HC977 := n3_; clear n0_ n1_ n2_ n3_; clear hg hw hp_ hz_ hm_ hok18))
                    go_roundg k1
                    case measure => have := HK1.out; omega
                    case rel => exact ⟨(y978), (wrap64 (x5_1 + 1)), (by first | rfl | (simp; done) | (simp [*]; done) | (generalize ByteArray.toList _ = l_; cases l_ <;> rfl)), H', ⟨by have := HK1.out; omega⟩, ⟨by (with_reducible repeat (first | apply Kd.S_alloc | apply Kd.S_drewN | apply Kd.S_drew)); exact HO974.out⟩, ⟨by repeat (first | (with_reducible first | exact HB.out | apply below_alloc | apply pw_below_drewN | apply below_drew1) | exact HB.out)⟩⟩
                  · rw [if_neg c11] at H
                    exact absurd H (by simp)
                · rw [if_neg c10] at H
                  exact absurd H (by simp)
              · rw [if_neg c9] at H
                exact absurd H (by simp)
            · rw [if_neg c8] at H
              exact absurd H (by simp)
          · rw [if_neg c7] at H
            exact absurd H (by simp)
        · rw [if_neg c6] at H
          exact absurd H (by simp)
      · rw [if_neg c4] at H
        have c4b0 : decide (x5_1 ≤ (l0.length : Int)) = false := decide_eq_false c4
        clear c4
        have H' := Aside0.mk H
        clear H
        go_wp2
        go_loopg [6] k1 (fun kq v6 w' => ∃ (x4_2 : List (List Int)) (x6_2 : Int), v6 = .int .i64 x6_2 ∧ Aside0 (spec_l11Count.l1 kq l0 (l0.length : Int) x4_2 x6_2 = some r) ∧ Aside0 (kq ≤ k1) ∧ Aside0 (Kd.S (Kd.slice 3 (Kd.int .i64)) 22 w' w.heap.size (fun _ => True) u4 x4_2) ∧ Aside0 (Below w.heap.size w w'))
        case atStart => exact ⟨(x4_1), (2), (by first | rfl | (simp; done) | (simp [*]; done) | (generalize ByteArray.toList _ = l_; cases l_ <;> rfl)), H', ⟨Nat.le_refl _⟩, ⟨by (with_reducible repeat (first | apply Kd.S_alloc | apply Kd.S_drewN | apply Kd.S_drew)); exact HO_4.out⟩, ⟨by repeat (first | (with_reducible first | exact HB.out | apply below_alloc | apply pw_below_drewN | apply below_drew1) | exact HB.out)⟩⟩
        case round =>
          clear H'
          try clear c1
          try clear p1
          try clear q1
          try clear hx1
          try clear qi1
          try clear hf1
          try clear p2
          try clear c4
          try clear c4b0
          try clear c5
          try clear c6
          try clear c6b0
          try clear c6b1
          try clear p6
          try clear c7
          try clear c7b0
          try clear c7b1
          try clear c8
          try clear c9
          try clear c9b0
          try clear p9
          try clear q9
          try clear hx9
          try clear c10
          try clear c10b0
          try clear c11
          try clear c11b0
          try clear c11b1
          try clear p12
          try clear q12
          try clear hx12
          try clear qi12
          try clear hf12
          try clear c18
          try clear q18
          try clear hx12_0
          try clear hx975_0
          try clear p12
          try clear p2
          try clear p975
          try clear q12
          try clear q975
          obtain ⟨x4_2, x6_2, rfl, HA, HK2, HO_4, HB⟩ := hrel
          cases gk with
          | zero => exact absurd HA.out (by simp [spec_l11Count.l1])
          | succ k2 =>
            have H := HA.out
            clear HA
            simp only [spec_l11Count.l1] at H
            by_cases c20 : x6_2 ≤ (l0.length : Int)
            · rw [if_pos c20] at H
              have c20b0 : decide (x6_2 ≤ (l0.length : Int)) = true := decide_eq_true c20
              clear c20
              have H' := Aside0.mk H
              clear H
              go_wp2
              go_loopg [7] k2 (fun kq v7 w' => ∃ (x4_3 : List (List Int)) (x7_3 : Int), v7 = .int .i64 x7_3 ∧ Aside0 (spec_l11Count.l2 kq l0 (l0.length : Int) x4_3 x6_2 x7_3 = some r) ∧ Aside0 (kq ≤ k2) ∧ Aside0 (Kd.S (Kd.slice 3 (Kd.int .i64)) 22 w' w.heap.size (fun _ => True) u4 x4_3) ∧ Aside0 (Below w.heap.size w w'))
              case atStart => exact ⟨(x4_2), (0), (by first | rfl | (simp; done) | (simp [*]; done) | (generalize ByteArray.toList _ = l_; cases l_ <;> rfl)), H', ⟨Nat.le_refl _⟩, ⟨by (with_reducible repeat (first | apply Kd.S_alloc | apply Kd.S_drewN | apply Kd.S_drew)); exact HO_4.out⟩, ⟨by repeat (first | (with_reducible first | exact HB.out | apply below_alloc | apply pw_below_drewN | apply below_drew1) | exact HB.out)⟩⟩
              case round =>
                clear H'
                try clear c1
                try clear p1
                try clear q1
                try clear hx1
                try clear qi1
                try clear hf1
                try clear c2
                try clear p2
                try clear c4
                try clear c4b0
                try clear c5
                try clear c6
                try clear c6b0
                try clear c6b1
                try clear p6
                try clear c7
                try clear c7b0
                try clear c7b1
                try clear c8
                try clear c9
                try clear c9b0
                try clear p9
                try clear q9
                try clear hx9
                try clear c10
                try clear c10b0
                try clear c11
                try clear c11b0
                try clear c11b1
                try clear p12
                try clear q12
                try clear hx12
                try clear qi12
                try clear hf12
                try clear c18
                try clear q18
                try clear c20
                try clear c20b0
                try clear hx12_0
                try clear hx975_0
                try clear p1
                try clear p12
                try clear p2
                try clear p6
                try clear p9
                try clear p975
                try clear q1
                try clear q12
                try clear q18
                try clear q9
                try clear q975
                obtain ⟨x4_3, x7_3, rfl, HA, HK3, HO_4, HB⟩ := hrel
                cases gk with
                | zero => exact absurd HA.out (by simp [spec_l11Count.l2])
                | succ k3 =>
                  have H := HA.out
                  clear HA
                  simp only [spec_l11Count.l2] at H
                  by_cases c21 : (wrap64 (x7_3 + x6_2)) ≤ (l0.length : Int)
                  · rw [if_pos c21] at H
                    have c21b0 : decide ((wrap64 (x7_3 + x6_2)) ≤ (l0.length : Int)) = true := decide_eq_true c21
                    clear c21
                    have H' := Aside0.mk H
                    clear H
                    go_wp2
                    go_loopg [8] k3 (fun kq v8 w' => ∃ (x4_4 : List (List Int)) (x8_4 : Int), v8 = .int .i64 x8_4 ∧ Aside0 (spec_l11Count.l3 kq l0 (l0.length : Int) x4_4 x6_2 x7_3 x8_4 = some r) ∧ Aside0 (kq ≤ k3) ∧ Aside0 (Kd.S (Kd.slice 3 (Kd.int .i64)) 22 w' w.heap.size (fun _ => True) u4 x4_4) ∧ Aside0 (Below w.heap.size w w'))
                    case atStart => exact ⟨(x4_3), (1), (by first | rfl | (simp; done) | (simp [*]; done) | (generalize ByteArray.toList _ = l_; cases l_ <;> rfl)), H', ⟨Nat.le_refl _⟩, ⟨by (with_reducible repeat (first | apply Kd.S_alloc | apply Kd.S_drewN | apply Kd.S_drew)); exact HO_4.out⟩, ⟨by repeat (first | (with_reducible first | exact HB.out | apply below_alloc | apply pw_below_drewN | apply below_drew1) | exact HB.out)⟩⟩
                    case round =>
                      clear H'
                      try clear c1
                      try clear p1
                      try clear q1
                      try clear hx1
                      try clear qi1
                      try clear hf1
                      try clear c2
                      try clear p2
                      try clear c4
                      try clear c4b0
                      try clear c5
                      try clear c6
                      try clear c6b0
                      try clear c6b1
                      try clear p6
                      try clear c7
                      try clear c7b0
                      try clear c7b1
                      try clear c8
                      try clear c9
                      try clear c9b0
                      try clear p9
                      try clear q9
                      try clear hx9
                      try clear c10
                      try clear c10b0
                      try clear c11
                      try clear c11b0
                      try clear c11b1
                      try clear p12
                      try clear q12
                      try clear hx12
                      try clear qi12
                      try clear hf12
                      try clear c18
                      try clear q18
                      try clear c20
                      try clear c20b0
                      try clear c21
                      try clear c21b0
                      try clear hx12_0
                      try clear hx975_0
                      try clear p1
                      try clear p12
                      try clear p2
                      try clear p6
                      try clear p9
                      try clear p975
                      try clear q1
                      try clear q12
                      try clear q18
                      try clear q9
                      try clear q975
                      obtain ⟨x4_4, x8_4, rfl, HA, HK4, HO_4, HB⟩ := hrel
                      cases gk with
                      | zero => exact absurd HA.out (by simp [spec_l11Count.l3])
                      | succ k4 =>
                        have H := HA.out
                        clear HA
                        simp only [spec_l11Count.l3] at H
                        by_cases c22 : x8_4 < x6_2
                        · rw [if_pos c22] at H
                          have c22b0 : decide (x8_4 < x6_2) = true := decide_eq_true c22
                          clear c22
                          obtain ⟨ji23, hji23⟩ : ∃ j_ : Int, (wrap64 (x7_3 + x8_4)) = j_ := ⟨_, rfl⟩
                          replace H : (if 0 ≤ (ji23) then (if (ji23) < (l0.length : Int) then (if 0 ≤ x7_3 then (if x7_3 < (l0.length : Int) then (if (rd l0 (ji23)) = (wrap64 (-(rd l0 x7_3))) then (if x7_3 < (x4_4.length : Int) then (if 0 ≤ x6_2 then (if x6_2 < ((rd_L1 x4_4 x7_3).length : Int) then (if 0 ≤ (wrap64 (x7_3 + 1)) then (if (wrap64 (x7_3 + 1)) < (x4_4.length : Int) then (if 0 ≤ (wrap64 (x8_4 - 1)) then (if (wrap64 (x8_4 - 1)) < ((rd_L1 x4_4 (wrap64 (x7_3 + 1))).length : Int) then (if 0 ≤ (wrap64 ((ji23) + 1)) then (if (wrap64 ((ji23) + 1)) < (x4_4.length : Int) then (if 0 ≤ (wrap64 ((wrap64 (x6_2 - x8_4)) - 1)) then (if (wrap64 ((wrap64 (x6_2 - x8_4)) - 1)) < ((rd_L1 x4_4 (wrap64 ((ji23) + 1))).length : Int) then (spec_l11Count.l3 k4 l0 (l0.length : Int) (x4_4.set (x7_3 : Int).toNat ((rd_L1 x4_4 x7_3).set (x6_2 : Int).toNat (wrap64 ((rd (rd_L1 x4_4 x7_3) x6_2) + (wrap64 ((rd (rd_L1 x4_4 (wrap64 (x7_3 + 1))) (wrap64 (x8_4 - 1))) * (rd (rd_L1 x4_4 (wrap64 ((ji23) + 1))) (wrap64 ((wrap64 (x6_2 - x8_4)) - 1))))))))) x6_2 x7_3 (wrap64 (x8_4 + 2))) else (none)) else (none)) else (none)) else (none)) else (none)) else (none)) else (none)) else (none)) else (none)) else (none)) else (none)) else (spec_l11Count.l3 k4 l0 (l0.length : Int) x4_4 x6_2 x7_3 (wrap64 (x8_4 + 2)))) else (none)) else (none)) else (none)) else (none)) = some r := by first | (rw [hji23] at H; exact H) | (simp only [hji23] at H ⊢; exact H)
                          have hji23w : (IntKind.i64.wrap (x7_3 + x8_4)) = ji23 := (i64_w _).trans hji23
                          by_cases c24 : 0 ≤ (ji23)
                          · rw [if_pos c24] at H
                            have c24b0 : decide (0 ≤ (ji23)) = true := decide_eq_true c24
                            clear c24
                            by_cases c25 : (ji23) < (l0.length : Int)
                            · rw [if_pos c25] at H
                              have c25b0 : decide ((ji23) < (l0.length : Int)) = true := decide_eq_true c25
                              clear c25
                              by_cases c26 : 0 ≤ x7_3
                              · rw [if_pos c26] at H
                                have c26b0 : decide (0 ≤ x7_3) = true := decide_eq_true c26
                                clear c26
                                by_cases c27 : x7_3 < (l0.length : Int)
                                · rw [if_pos c27] at H
                                  have c27b0 : decide (x7_3 < (l0.length : Int)) = true := decide_eq_true c27
                                  clear c27
                                  by_cases c28 : (rd l0 (ji23)) = (wrap64 (-(rd l0 x7_3)))
                                  · rw [if_pos c28] at H
                                    have c28b0 : ((rd l0 (ji23)) == (wrap64 (-(rd l0 x7_3)))) = true := beq_iff_eq.mpr c28
                                    have c28b1 : ((rd l0 (ji23)) != (wrap64 (-(rd l0 x7_3)))) = false := bne_eq_false_iff_eq.mpr c28
                                    clear c28
                                    by_cases c29 : x7_3 < (x4_4.length : Int)
                                    · rw [if_pos c29] at H
                                      have c29b0 : decide (x7_3 < (x4_4.length : Int)) = true := decide_eq_true c29
                                      clear c29
                                      by_cases c30 : 0 ≤ x6_2
                                      · rw [if_pos c30] at H
                                        have c30b0 : decide (0 ≤ x6_2) = true := decide_eq_true c30
                                        clear c30
                                        by_cases c31 : x6_2 < ((rd_L1 x4_4 x7_3).length : Int)
                                        · rw [if_pos c31] at H
                                          have c31b0 : decide (x6_2 < ((rd_L1 x4_4 x7_3).length : Int)) = true := decide_eq_true c31
                                          clear c31
                                          obtain ⟨ji32, hji32⟩ : ∃ j_ : Int, (wrap64 (x7_3 + 1)) = j_ := ⟨_, rfl⟩
                                          replace H : (if 0 ≤ (ji32) then (if (ji32) < (x4_4.length : Int) then (if 0 ≤ (wrap64 (x8_4 - 1)) then (if (wrap64 (x8_4 - 1)) < ((rd_L1 x4_4 (ji32)).length : Int) then (if 0 ≤ (wrap64 ((ji23) + 1)) then (if (wrap64 ((ji23) + 1)) < (x4_4.length : Int) then (if 0 ≤ (wrap64 ((wrap64 (x6_2 - x8_4)) - 1)) then (if (wrap64 ((wrap64 (x6_2 - x8_4)) - 1)) < ((rd_L1 x4_4 (wrap64 ((ji23) + 1))).length : Int) then (spec_l11Count.l3 k4 l0 (l0.length : Int) (x4_4.set (x7_3 : Int).toNat ((rd_L1 x4_4 x7_3).set (x6_2 : Int).toNat (wrap64 ((rd (rd_L1 x4_4 x7_3) x6_2) + (wrap64 ((rd (rd_L1 x4_4 (ji32)) (wrap64 (x8_4 - 1))) * (rd (rd_L1 x4_4 (wrap64 ((ji23) + 1))) (wrap64 ((wrap64 (x6_2 - x8_4)) - 1))))))))) x6_2 x7_3 (wrap64 (x8_4 + 2))) else (none)) else (none)) else (none)) else (none)) else (none)) else (none)) else (none)) else (none)) = some r := by first | (rw [hji32] at H; exact H) | (simp only [hji32] at H ⊢; exact H)
                                          have hji32w : (IntKind.i64.wrap (x7_3 + 1)) = ji32 := (i64_w _).trans hji32
                                          by_cases c33 : 0 ≤ (ji32)
                                          · rw [if_pos c33] at H
                                            have c33b0 : decide (0 ≤ (ji32)) = true := decide_eq_true c33
                                            clear c33
                                            by_cases c34 : (ji32) < (x4_4.length : Int)
                                            · rw [if_pos c34] at H
                                              have c34b0 : decide ((ji32) < (x4_4.length : Int)) = true := decide_eq_true c34
                                              clear c34
                                              obtain ⟨ji35, hji35⟩ : ∃ j_ : Int, (wrap64 (x8_4 - 1)) = j_ := ⟨_, rfl⟩
                                              replace H : (if 0 ≤ (ji35) then (if (ji35) < ((rd_L1 x4_4 (ji32)).length : Int) then (if 0 ≤ (wrap64 ((ji23) + 1)) then (if (wrap64 ((ji23) + 1)) < (x4_4.length : Int) then (if 0 ≤ (wrap64 ((wrap64 (x6_2 - x8_4)) - 1)) then (if (wrap64 ((wrap64 (x6_2 - x8_4)) - 1)) < ((rd_L1 x4_4 (wrap64 ((ji23) + 1))).length : Int) then (spec_l11Count.l3 k4 l0 (l0.length : Int) (x4_4.set (x7_3 : Int).toNat ((rd_L1 x4_4 x7_3).set (x6_2 : Int).toNat (wrap64 ((rd (rd_L1 x4_4 x7_3) x6_2) + (wrap64 ((rd (rd_L1 x4_4 (ji32)) (ji35)) * (rd (rd_L1 x4_4 (wrap64 ((ji23) + 1))) (wrap64 ((wrap64 (x6_2 - x8_4)) - 1))))))))) x6_2 x7_3 (wrap64 (x8_4 + 2))) else (none)) else (none)) else (none)) else (none)) else (none)) else (none)) = some r := by first | (rw [hji35] at H; exact H) | (simp only [hji35] at H ⊢; exact H)
                                              have hji35w : (IntKind.i64.wrap (x8_4 - 1)) = ji35 := (i64_w _).trans hji35
                                              by_cases c36 : 0 ≤ (ji35)
                                              · rw [if_pos c36] at H
                                                have c36b0 : decide (0 ≤ (ji35)) = true := decide_eq_true c36
                                                clear c36
                                                by_cases c37 : (ji35) < ((rd_L1 x4_4 (ji32)).length : Int)
                                                · rw [if_pos c37] at H
                                                  have c37b0 : decide ((ji35) < ((rd_L1 x4_4 (ji32)).length : Int)) = true := decide_eq_true c37
                                                  clear c37
                                                  obtain ⟨ji38, hji38⟩ : ∃ j_ : Int, (wrap64 ((ji23) + 1)) = j_ := ⟨_, rfl⟩
                                                  replace H : (if 0 ≤ (ji38) then (if (ji38) < (x4_4.length : Int) then (if 0 ≤ (wrap64 ((wrap64 (x6_2 - x8_4)) - 1)) then (if (wrap64 ((wrap64 (x6_2 - x8_4)) - 1)) < ((rd_L1 x4_4 (ji38)).length : Int) then (spec_l11Count.l3 k4 l0 (l0.length : Int) (x4_4.set (x7_3 : Int).toNat ((rd_L1 x4_4 x7_3).set (x6_2 : Int).toNat (wrap64 ((rd (rd_L1 x4_4 x7_3) x6_2) + (wrap64 ((rd (rd_L1 x4_4 (ji32)) (ji35)) * (rd (rd_L1 x4_4 (ji38)) (wrap64 ((wrap64 (x6_2 - x8_4)) - 1))))))))) x6_2 x7_3 (wrap64 (x8_4 + 2))) else (none)) else (none)) else (none)) else (none)) = some r := by first | (rw [hji38] at H; exact H) | (simp only [hji38] at H ⊢; exact H)
                                                  have hji38w : (IntKind.i64.wrap ((ji23) + 1)) = ji38 := (i64_w _).trans hji38
                                                  by_cases c39 : 0 ≤ (ji38)
                                                  · rw [if_pos c39] at H
                                                    have c39b0 : decide (0 ≤ (ji38)) = true := decide_eq_true c39
                                                    clear c39
                                                    by_cases c40 : (ji38) < (x4_4.length : Int)
                                                    · rw [if_pos c40] at H
                                                      have c40b0 : decide ((ji38) < (x4_4.length : Int)) = true := decide_eq_true c40
                                                      clear c40
                                                      obtain ⟨ji41, hji41⟩ : ∃ j_ : Int, (wrap64 ((wrap64 (x6_2 - x8_4)) - 1)) = j_ := ⟨_, rfl⟩
                                                      replace H : (if 0 ≤ (ji41) then (if (ji41) < ((rd_L1 x4_4 (ji38)).length : Int) then (spec_l11Count.l3 k4 l0 (l0.length : Int) (x4_4.set (x7_3 : Int).toNat ((rd_L1 x4_4 x7_3).set (x6_2 : Int).toNat (wrap64 ((rd (rd_L1 x4_4 x7_3) x6_2) + (wrap64 ((rd (rd_L1 x4_4 (ji32)) (ji35)) * (rd (rd_L1 x4_4 (ji38)) (ji41)))))))) x6_2 x7_3 (wrap64 (x8_4 + 2))) else (none)) else (none)) = some r := by first | (rw [hji41] at H; exact H) | (simp only [hji41] at H ⊢; exact H)
                                                      have hji41w : (IntKind.i64.wrap ((wrap64 (x6_2 - x8_4)) - 1)) = ji41 := (i64_w _).trans hji41
                                                      by_cases c42 : 0 ≤ (ji41)
                                                      · rw [if_pos c42] at H
                                                        have c42b0 : decide (0 ≤ (ji41)) = true := decide_eq_true c42
                                                        clear c42
                                                        by_cases c43 : (ji41) < ((rd_L1 x4_4 (ji38)).length : Int)
                                                        · rw [if_pos c43] at H
                                                          have c43b0 : decide ((ji41) < ((rd_L1 x4_4 (ji38)).length : Int)) = true := decide_eq_true c43
                                                          clear c43
                                                          obtain ⟨y990, hy990⟩ : ∃ y_ : List Int, y_ = ((rd_L1 x4_4 x7_3).set (x6_2 : Int).toNat (wrap64 ((rd (rd_L1 x4_4 x7_3) x6_2) + (wrap64 ((rd (rd_L1 x4_4 (ji32)) (ji35)) * (rd (rd_L1 x4_4 (ji38)) (ji41))))))) := ⟨_, rfl⟩
                                                          replace H : (spec_l11Count.l3 k4 l0 (l0.length : Int) (x4_4.set (x7_3 : Int).toNat y990) x6_2 x7_3 (wrap64 (x8_4 + 2))) = some r := by first | (rw [hy990]; with_reducible exact H) | (have H2_ := (Option.bind_some _ _).symm.trans H; rw [hy990]; with_reducible exact H2_) | (have H2_ := (Option.bind_some _ _).symm.trans H; with_reducible exact H2_) | with_reducible exact H | (rw [hy990]; exact H) | exact H
                                                          have Ny990 := Aside0.mk hy990
                                                          clear hy990
                                                          obtain ⟨y992, hy992⟩ : ∃ y_ : List (List Int), y_ = (x4_4.set (x7_3 : Int).toNat y990) := ⟨_, rfl⟩
                                                          replace H : (spec_l11Count.l3 k4 l0 (l0.length : Int) y992 x6_2 x7_3 (wrap64 (x8_4 + 2))) = some r := by first | (rw [hy992]; with_reducible exact H) | (have H2_ := (Option.bind_some _ _).symm.trans H; rw [hy992]; with_reducible exact H2_) | (have H2_ := (Option.bind_some _ _).symm.trans H; with_reducible exact H2_) | with_reducible exact H | (rw [hy992]; exact H) | exact H
                                                          have Ny992 := Aside0.mk hy992
                                                          clear hy992
                                                          have H' := Aside0.mk H
                                                          clear H
                                                          try go_wp2
                                                          have n0_ := Aside0.mk (Kd.S_drew HO_4.out)
                                                          have n1_ := Aside0.mk (below_drew1 HB.out)
                                                          clear HO_4
                                                          clear HB
                                                          have HO_4 := n0_
                                                          have HB := n1_
                                                          clear n0_ n1_
                                                          have p981 : 0 ≤ ((ji23) : Int) := of_decide_eq_true (by first | (with_reducible assumption) | assumption)
                                                          have q981 : (ji23) < (l0.length : Int) := of_decide_eq_true (by first | (with_reducible assumption) | assumption)
                                                          obtain ⟨ad981, e981, hx981_0⟩ := Kd.at_int HR0.out (ji23) p981 q981
                                                          have hw981_0 := hx981_0
                                                          cases e981
                                                          replace hx981_0 := (HB.out.cell (World.block_lt_of_cell? w _ hx981_0)).trans hx981_0
                                                          replace p981 := eq_true p981
                                                          replace q981 := eq_true q981
                                                          have p982 : 0 ≤ (x7_3 : Int) := of_decide_eq_true (by first | (with_reducible assumption) | assumption)
                                                          have q982 : x7_3 < (l0.length : Int) := of_decide_eq_true (by first | (with_reducible assumption) | assumption)
                                                          obtain ⟨ad982, e982, hx982_0⟩ := Kd.at_int HR0.out x7_3 p982 q982
                                                          have hw982_0 := hx982_0
                                                          obtain rfl : ad981 = ad982 := (by injection e982)
                                                          replace hx982_0 := (HB.out.cell (World.block_lt_of_cell? w _ hx982_0)).trans hx982_0
                                                          replace p982 := eq_true p982
                                                          replace q982 := eq_true q982
                                                          refine start_ (n := 12) (S := fun w' => w'.cell? (ad981.add ((ji23)).toNat) = some (.int .i64 (rd l0 (ji23))) ∧ w'.cell? (ad981.add (x7_3).toNat) = some (.int .i64 (rd l0 x7_3))) (ds := []) #[false, false, false, false, false, false, false, false, false, false, false, false] (by kernel_rfl) rfl rfl ⟨((HB.out.cell (World.block_lt_of_cell? w _ hw981_0)).trans hw981_0), ((HB.out.cell (World.block_lt_of_cell? w _ hw982_0)).trans hw982_0)⟩ (fun hHeld => ?_); refine with_tabW spec_l11Count.tab17 spec_l11Count.bits17 (fun HT_ HW_ => ?_)
                                                          generalize wr.drew = w45 at HO_4 HB hx981_0 hx982_0 hHeld ⊢
                                                          refine pure_ (i := 0) (N := some 45) (v := ?_) (a' := ?_) #[true, false, false, false, false, false, false, false, false, false, false, false] rfl rfl (any_of HT_.out (by kernel_rfl)) (fun _ _ _ h => h) (Or.inl ⟨by rfl, ?_⟩) ?_ ?_
                                                          rotate_left
                                                          · intro w'
                                                            go_simp
                                                            with_reducible rfl
                                                          rotate_left
                                                          · simp only [Act.put, List.setIfInBounds_toArray, List.set_cons_zero, List.set_cons_succ, i64_w, i32_w]
                                                            rfl
                                                          refine pure_ (i := 1) (N := some 46) (v := ?_) (a' := ?_) #[true, true, false, false, false, false, false, false, false, false, false, false] rfl rfl (any_of HT_.out (by kernel_rfl)) (fun _ _ _ h => h) (Or.inl ⟨by rfl, ?_⟩) ?_ ?_
                                                          rotate_left
                                                          · intro w'
                                                            go_simp
                                                            with_reducible rfl
                                                          rotate_left
                                                          · simp only [Act.put, List.setIfInBounds_toArray, List.set_cons_zero, List.set_cons_succ, i64_w, i32_w]
                                                            rfl
                                                          refine pure_ (i := 2) (N := some 47) (v := ?_) (a' := ?_) #[true, true, true, false, false, false, false, false, false, false, false, false] rfl rfl (any_of HT_.out (by kernel_rfl)) (fun _ _ _ h => h) (Or.inl ⟨by rfl, ?_⟩) ?_ ?_
                                                          rotate_left
                                                          · intro w'
                                                            go_simp
                                                            with_reducible rfl
                                                          rotate_left
                                                          · simp only [Act.put, List.setIfInBounds_toArray, List.set_cons_zero, List.set_cons_succ, i64_w, i32_w]
                                                            rfl
                                                          refine pure_ (i := 3) (N := some 48) (v := ?_) (a' := ?_) #[true, true, true, true, false, false, false, false, false, false, false, false] rfl rfl (any_of HT_.out (by kernel_rfl)) (fun _ _ _ h => h) (Or.inl ⟨by rfl, ?_⟩) ?_ ?_
                                                          rotate_left
                                                          · intro w'
                                                            go_simp
                                                            with_reducible rfl
                                                          rotate_left
                                                          · simp only [Act.put, List.setIfInBounds_toArray, List.set_cons_zero, List.set_cons_succ, i64_w, i32_w]
                                                            rfl
                                                          refine pure_ (i := 4) (N := some 49) (v := ?_) (a' := ?_) #[true, true, true, true, true, false, false, false, false, false, false, false] rfl rfl (any_of HT_.out (by kernel_rfl)) (fun _ _ _ h => h) (Or.inl ⟨by rfl, ?_⟩) ?_ ?_
                                                          rotate_left
                                                          · intro w'
                                                            go_simp
                                                            with_reducible rfl
                                                          rotate_left
                                                          · simp only [Act.put, List.setIfInBounds_toArray, List.set_cons_zero, List.set_cons_succ, i64_w, i32_w]
                                                            rfl
                                                          refine pure_ (i := 6) (N := some 51) (v := ?_) (a' := ?_) #[true, true, true, true, true, false, true, false, false, false, false, false] rfl rfl (any_of HT_.out (by kernel_rfl)) (fun _ _ _ h => h) (Or.inl ⟨by rfl, ?_⟩) ?_ ?_
                                                          rotate_left
                                                          · intro w'
                                                            go_simp
                                                            with_reducible rfl
                                                          rotate_left
                                                          · simp only [Act.put, List.setIfInBounds_toArray, List.set_cons_zero, List.set_cons_succ, i64_w, i32_w]
                                                            rfl
                                                          refine pure_ (i := 7) (N := some 52) (v := ?_) (a' := ?_) #[true, true, true, true, true, false, true, true, false, false, false, false] rfl rfl (any_of HT_.out (by kernel_rfl)) (fun _ _ _ h => h) (Or.inl ⟨by rfl, ?_⟩) ?_ ?_
                                                          rotate_left
                                                          · intro w'
                                                            go_simp
                                                            with_reducible rfl
                                                          rotate_left
                                                          · simp only [Act.put, List.setIfInBounds_toArray, List.set_cons_zero, List.set_cons_succ, i64_w, i32_w]
                                                            rfl
                                                          refine pure_ (i := 8) (N := some 53) (v := ?_) (a' := ?_) #[true, true, true, true, true, false, true, true, true, false, false, false] rfl rfl (any_of HT_.out (by kernel_rfl)) (fun _ _ _ h => h) (Or.inl ⟨by rfl, ?_⟩) ?_ ?_
                                                          rotate_left
                                                          · intro w'
                                                            go_simp
                                                            with_reducible rfl
                                                          rotate_left
                                                          · simp only [Act.put, List.setIfInBounds_toArray, List.set_cons_zero, List.set_cons_succ, i64_w, i32_w]
                                                            rfl
                                                          refine take_ (i := 5) (N := some 50) (v := ?_) (a' := ?_) #[true, true, true, true, true, true, true, true, true, false, false, false] rfl rfl (take_ofW HT_.out HW_.out (by kernel_rfl)) (fun _ _ _ h => h) (Or.inl ⟨by rfl, ?_⟩) hHeld ?_ ?_
                                                          rotate_left
                                                          · rintro w' ⟨s0, s1⟩
                                                            go_simp
                                                            with_reducible rfl
                                                          rotate_left
                                                          · simp only [Act.put, List.setIfInBounds_toArray, List.set_cons_zero, List.set_cons_succ, i64_w, i32_w]
                                                            rfl
                                                          refine take_ (i := 9) (N := some 54) (v := ?_) (a' := ?_) #[true, true, true, true, true, true, true, true, true, true, false, false] rfl rfl (take_ofW HT_.out HW_.out (by kernel_rfl)) (fun _ _ _ h => h) (Or.inl ⟨by rfl, ?_⟩) hHeld ?_ ?_
                                                          rotate_left
                                                          · rintro w' ⟨s0, s1⟩
                                                            go_simp
                                                            with_reducible rfl
                                                          rotate_left
                                                          · simp only [Act.put, List.setIfInBounds_toArray, List.set_cons_zero, List.set_cons_succ, i64_w, i32_w]
                                                            rfl
                                                          refine pure_ (i := 10) (N := some 55) (v := ?_) (a' := ?_) #[true, true, true, true, true, true, true, true, true, true, true, false] rfl rfl (any_of HT_.out (by kernel_rfl)) (fun _ _ _ h => h) (Or.inl ⟨by rfl, ?_⟩) ?_ ?_
                                                          rotate_left
                                                          · intro w'
                                                            go_simp
                                                            with_reducible rfl
                                                          rotate_left
                                                          · simp only [Act.put, List.setIfInBounds_toArray, List.set_cons_zero, List.set_cons_succ, i64_w, i32_w]
                                                            rfl
                                                          refine pure_ (i := 11) (N := some 56) (v := ?_) (a' := ?_) #[true, true, true, true, true, true, true, true, true, true, true, true] rfl rfl (any_of HT_.out (by kernel_rfl)) (fun _ _ _ h => h) (Or.inl ⟨by rfl, ?_⟩) ?_ ?_
                                                          rotate_left
                                                          · intro w'
                                                            go_simp
                                                            with_reducible rfl
                                                          rotate_left
                                                          · simp only [Act.put, List.setIfInBounds_toArray, List.set_cons_zero, List.set_cons_succ, i64_w, i32_w]
                                                            rfl
                                                          refine done_ (done_of HT_.out (by kernel_rfl)) ?_
                                                          try go_wp2
                                                          have n0_ := Aside0.mk (Kd.S_drew HO_4.out)
                                                          have n1_ := Aside0.mk (below_drew1 HB.out)
                                                          clear HO_4
                                                          clear HB
                                                          have HO_4 := n0_
                                                          have HB := n1_
                                                          clear n0_ n1_
                                                          obtain ⟨Ao47, co47, eo47⟩ := Kd.S_slice HO_4.out
                                                          (first | subst eo47 | (injection eo47 with f1_ f2_ f3_; have f4_ := f1_.symm; have f5_ := f3_.symm; clear f1_ f2_ f3_; subst f4_; subst f5_))
                                                          have p983 : 0 ≤ (x7_3 : Int) := of_decide_eq_true (by first | (with_reducible assumption) | assumption)
                                                          have q983 : x7_3 < (x4_4.length : Int) := of_decide_eq_true (by first | (with_reducible assumption) | assumption)
                                                          obtain ⟨ad983, A983_0, c983_0, e983, hx983_0, hl983_0, hi983_0⟩ := at_L1 (Kd.S_reads' HO_4.out).2.2 x7_3 p983 q983
                                                          cases e983
                                                          obtain ⟨ce983, hce983, hMe983, hcc983⟩ := Kd.S_get HO_4.out [] x7_3 p983 (by first | exact q983 | exact of_decide_eq_true (by first | (with_reducible assumption) | assumption) | (have e_ := (Kd.S_reads' HO_4.out).1; omega))
                                                          obtain ⟨ve983_0, rfl, ge983_0⟩ := hMe983
                                                          have hv983_0 := hcc983 0 _ rfl
                                                          rw [Nat.add_zero, show ((Kd.slice 3 (Kd.int .i64))).sz = 1 from rfl, Nat.mul_one] at hv983_0
                                                          replace hv983_0 := Option.some.inj (hv983_0.symm.trans hx983_0)
                                                          rw [hv983_0] at ge983_0
                                                          have HL983_0 := Aside0.mk (show Kd.R (Kd.int .i64) 3 _ _ _ _ (rd_L1 x4_4 x7_3) from ge983_0)
                                                          clear hv983_0 ge983_0
                                                          have HX983_0 := Aside0.mk hx983_0
                                                          clear hcc983 hce983
                                                          have HR983_0 := Aside0.mk hi983_0
                                                          have HC983_0 := Aside0.mk hl983_0
                                                          clear hi983_0 hl983_0
                                                          replace p983 := eq_true p983
                                                          replace q983 := eq_true q983
                                                          have p984 : 0 ≤ (x7_3 : Int) := of_decide_eq_true (by first | (with_reducible assumption) | assumption)
                                                          have q984 : x7_3 < (x4_4.length : Int) := of_decide_eq_true (by first | (with_reducible assumption) | assumption)
                                                          obtain ⟨ad984, A984_0, c984_0, e984, hx984_0, hl984_0, hi984_0⟩ := at_L1 (Kd.S_reads' HO_4.out).2.2 x7_3 p984 q984
                                                          obtain rfl : ad983 = ad984 := (by injection e984)
                                                          obtain ⟨ce984, hce984, hMe984, hcc984⟩ := Kd.S_get HO_4.out [] x7_3 p984 (by first | exact q984 | exact of_decide_eq_true (by first | (with_reducible assumption) | assumption) | (have e_ := (Kd.S_reads' HO_4.out).1; omega))
                                                          obtain ⟨ve984_0, rfl, ge984_0⟩ := hMe984
                                                          have hv984_0 := hcc984 0 _ rfl
                                                          rw [Nat.add_zero, show ((Kd.slice 3 (Kd.int .i64))).sz = 1 from rfl, Nat.mul_one] at hv984_0
                                                          replace hv984_0 := Option.some.inj (hv984_0.symm.trans hx984_0)
                                                          rw [hv984_0] at ge984_0
                                                          have HL984_0 := Aside0.mk (show Kd.R (Kd.int .i64) 3 _ _ _ _ (rd_L1 x4_4 x7_3) from ge984_0)
                                                          clear hv984_0 ge984_0
                                                          have HX984_0 := Aside0.mk hx984_0
                                                          clear hcc984 hce984
                                                          have HR984_0 := Aside0.mk hi984_0
                                                          have HC984_0 := Aside0.mk hl984_0
                                                          clear hi984_0 hl984_0
                                                          replace p984 := eq_true p984
                                                          replace q984 := eq_true q984
                                                          have ea_ := Option.some.inj (hx983_0.symm.trans hx984_0)
                                                          injection ea_ with ea_ en_ ec_
                                                          subst ea_
                                                          subst ec_
                                                          clear en_
                                                          have p985 : 0 ≤ (x6_2 : Int) := of_decide_eq_true (by first | (with_reducible assumption) | assumption)
                                                          have q985 : x6_2 < ((rd_L1 x4_4 x7_3).length : Int) := of_decide_eq_true (by first | (with_reducible assumption) | assumption)
                                                          obtain ⟨ad985, e985, hx985_0⟩ := Kd.at_int (by repeat (first | (with_reducible exact HR984_0.out) | (with_reducible refine Kd.C_alloc ?_ _) | (with_reducible refine Kd.C_drewN ?_ _) | (with_reducible refine Kd.C_drew ?_) | exact HR984_0.out)) x6_2 p985 q985
                                                          cases e985
                                                          replace p985 := eq_true p985
                                                          replace q985 := eq_true q985
                                                          have p986 : 0 ≤ ((ji32) : Int) := of_decide_eq_true (by first | (with_reducible assumption) | assumption)
                                                          have q986 : (ji32) < (x4_4.length : Int) := of_decide_eq_true (by first | (with_reducible assumption) | assumption)
                                                          obtain ⟨ad986, A986_0, c986_0, e986, hx986_0, hl986_0, hi986_0⟩ := at_L1 (Kd.S_reads' HO_4.out).2.2 (ji32) p986 q986
                                                          obtain rfl : ad983 = ad986 := (by injection e986)
                                                          obtain ⟨ce986, hce986, hMe986, hcc986⟩ := Kd.S_get HO_4.out [] (ji32) p986 (by first | exact q986 | exact of_decide_eq_true (by first | (with_reducible assumption) | assumption) | (have e_ := (Kd.S_reads' HO_4.out).1; omega))
                                                          obtain ⟨ve986_0, rfl, ge986_0⟩ := hMe986
                                                          have hv986_0 := hcc986 0 _ rfl
                                                          rw [Nat.add_zero, show ((Kd.slice 3 (Kd.int .i64))).sz = 1 from rfl, Nat.mul_one] at hv986_0
                                                          replace hv986_0 := Option.some.inj (hv986_0.symm.trans hx986_0)
                                                          rw [hv986_0] at ge986_0
                                                          have HL986_0 := Aside0.mk (show Kd.R (Kd.int .i64) 3 _ _ _ _ (rd_L1 x4_4 (ji32)) from ge986_0)
                                                          clear hv986_0 ge986_0
                                                          have HX986_0 := Aside0.mk hx986_0
                                                          clear hcc986 hce986
                                                          have HR986_0 := Aside0.mk hi986_0
                                                          have HC986_0 := Aside0.mk hl986_0
                                                          clear hi986_0 hl986_0
                                                          replace p986 := eq_true p986
                                                          replace q986 := eq_true q986
                                                          have p987 : 0 ≤ ((ji35) : Int) := of_decide_eq_true (by first | (with_reducible assumption) | assumption)
                                                          have q987 : (ji35) < ((rd_L1 x4_4 (ji32)).length : Int) := of_decide_eq_true (by first | (with_reducible assumption) | assumption)
                                                          obtain ⟨ad987, e987, hx987_0⟩ := Kd.at_int (by repeat (first | (with_reducible exact HR986_0.out) | (with_reducible refine Kd.C_alloc ?_ _) | (with_reducible refine Kd.C_drewN ?_ _) | (with_reducible refine Kd.C_drew ?_) | exact HR986_0.out)) (ji35) p987 q987
                                                          cases e987
                                                          replace p987 := eq_true p987
                                                          replace q987 := eq_true q987
                                                          have p988 : 0 ≤ ((ji38) : Int) := of_decide_eq_true (by first | (with_reducible assumption) | assumption)
                                                          have q988 : (ji38) < (x4_4.length : Int) := of_decide_eq_true (by first | (with_reducible assumption) | assumption)
                                                          obtain ⟨ad988, A988_0, c988_0, e988, hx988_0, hl988_0, hi988_0⟩ := at_L1 (Kd.S_reads' HO_4.out).2.2 (ji38) p988 q988
                                                          obtain rfl : ad983 = ad988 := (by injection e988)
                                                          obtain ⟨ce988, hce988, hMe988, hcc988⟩ := Kd.S_get HO_4.out [] (ji38) p988 (by first | exact q988 | exact of_decide_eq_true (by first | (with_reducible assumption) | assumption) | (have e_ := (Kd.S_reads' HO_4.out).1; omega))
                                                          obtain ⟨ve988_0, rfl, ge988_0⟩ := hMe988
                                                          have hv988_0 := hcc988 0 _ rfl
                                                          rw [Nat.add_zero, show ((Kd.slice 3 (Kd.int .i64))).sz = 1 from rfl, Nat.mul_one] at hv988_0
                                                          replace hv988_0 := Option.some.inj (hv988_0.symm.trans hx988_0)
                                                          rw [hv988_0] at ge988_0
                                                          have HL988_0 := Aside0.mk (show Kd.R (Kd.int .i64) 3 _ _ _ _ (rd_L1 x4_4 (ji38)) from ge988_0)
                                                          clear hv988_0 ge988_0
                                                          have HX988_0 := Aside0.mk hx988_0
                                                          clear hcc988 hce988
                                                          have HR988_0 := Aside0.mk hi988_0
                                                          have HC988_0 := Aside0.mk hl988_0
                                                          clear hi988_0 hl988_0
                                                          replace p988 := eq_true p988
                                                          replace q988 := eq_true q988
                                                          have p989 : 0 ≤ ((ji41) : Int) := of_decide_eq_true (by first | (with_reducible assumption) | assumption)
                                                          have q989 : (ji41) < ((rd_L1 x4_4 (ji38)).length : Int) := of_decide_eq_true (by first | (with_reducible assumption) | assumption)
                                                          obtain ⟨ad989, e989, hx989_0⟩ := Kd.at_int (by repeat (first | (with_reducible exact HR988_0.out) | (with_reducible refine Kd.C_alloc ?_ _) | (with_reducible refine Kd.C_drewN ?_ _) | (with_reducible refine Kd.C_drew ?_) | exact HR988_0.out)) (ji41) p989 q989
                                                          cases e989
                                                          replace p989 := eq_true p989
                                                          replace q989 := eq_true q989
                                                          have p44 : 0 ≤ (x6_2 : Int) := of_decide_eq_true (by first | (with_reducible assumption) | assumption)
                                                          have q44 : (x6_2 : Int) < (((rd_L1 x4_4 x7_3).length : Int) : Int) := of_decide_eq_true (by first | (with_reducible assumption) | assumption)
                                                          obtain ⟨go44, co44, eo44, gb44, gl44, cl44, HG44⟩ := Kd.R_form HL983_0.out (by omega)
                                                          (first | cases eo44 | (injection eo44 with ea_ en_ ec_; (first | subst ea_ | (injection ea_ with ea_; subst ea_)); subst ec_; clear en_))
                                                          have GB44 := Aside0.mk gb44
                                                          have GG44 := Aside0.mk HG44
                                                          clear gb44 gl44 HG44
                                                          (first | simp only [add_plain] at hx985_0 | skip)
                                                          obtain ⟨hx44_0, hf44_0⟩ := Kd.R_celln 0 HL983_0.out (x6_2 : Int) p44 q44
                                                          replace p44 := eq_true p44
                                                          replace q44 := eq_true q44
                                                          have hq48 : (x7_3 : Int) < (x4_4.length : Int) := (by have h_ : (x7_3 : Int) < ((x4_4.length : Int) : Int) := of_decide_eq_true (by first | (with_reducible assumption) | assumption); first | exact h_ | (have e_ := (Kd.S_reads' HO_4.out).1; omega) | simpa only [List.length_set, List.length_set] using h_)
                                                          obtain ⟨oki48, ce48, hcl48, hM48, hcc48, hok48, hbk48⟩ := Kd.S_borrow HO_4.out [] (x7_3 : Int) (of_decide_eq_true (by first | (with_reducible assumption) | assumption)) hq48
                                                          obtain ⟨ve48_0, rfl, ge48_0⟩ := hM48
                                                          have hv48 := hcc48 0 _ rfl
                                                          rw [Nat.add_zero, show ((Kd.slice 3 (Kd.int .i64))).sz = 1 from rfl, Nat.mul_one] at hv48
                                                          replace hv48 := Option.some.inj (hv48.symm.trans HX983_0.out)
                                                          subst hv48
                                                          clear hcc48 hcl48
                                                          replace ge48_0 := (show Kd.R (Kd.int .i64) 3 _ _ _ _ (rd_L1 x4_4 x7_3) from ge48_0)
                                                          have HP48 := Kd.R_putg ge48_0 (x6_2 : Int) (wrap64 ((rd (rd_L1 x4_4 x7_3) x6_2) + (wrap64 ((rd (rd_L1 x4_4 (ji32)) (ji35)) * (rd (rd_L1 x4_4 (ji38)) (ji41))))))
                                                          rw [← Ny990.out] at HP48
                                                          have HS48 := hbk48 HP48.2 (fun k_ e_ => by injection e_ with e_; subst e_; exact ge48_0.1 _ rfl) (x' := y990) (Kd.M_row HP48.1)
                                                          rw [← Ny992.out] at HS48
                                                          have HQ48 := Aside0.mk HS48
                                                          clear HP48 HS48 hbk48 hok48
                                                          refine start_ (n := 38) (S := fun w' => w'.cell? (ad983.add (x7_3).toNat) = some (.slice (some ⟨go44, 0, none⟩) (rd_L1 x4_4 x7_3).length c983_0) ∧ w'.cell? (ad983.add (x7_3).toNat) = some (.slice (some ⟨go44, 0, none⟩) (rd_L1 x4_4 x7_3).length c983_0) ∧ w'.cell? ⟨go44, (x6_2).toNat, none⟩ = some (.int .i64 (rd (rd_L1 x4_4 x7_3) x6_2)) ∧ w'.cell? (ad983.add ((ji32)).toNat) = some (.slice (some ad987) (rd_L1 x4_4 (ji32)).length c986_0) ∧ w'.cell? (ad987.add ((ji35)).toNat) = some (.int .i64 (rd (rd_L1 x4_4 (ji32)) (ji35))) ∧ w'.cell? (ad983.add ((ji38)).toNat) = some (.slice (some ad989) (rd_L1 x4_4 (ji38)).length c988_0) ∧ w'.cell? (ad989.add ((ji41)).toNat) = some (.int .i64 (rd (rd_L1 x4_4 (ji38)) (ji41)))) (ds := [37]) #[false, false, false, false, false, false, false, false, false, false, false, false, false, false, false, false, false, false, false, false, false, false, false, false, false, false, false, false, false, false, false, false, false, false, false, false, false, false] (by kernel_rfl) rfl rfl ⟨hx983_0, hx984_0, hx985_0, hx986_0, hx987_0, hx988_0, hx989_0⟩ (fun hHeld => ?_); refine with_tabW spec_l11Count.tab18 spec_l11Count.bits18 (fun HT_ HW_ => ?_)
                                                          generalize w45.drew = w46 at HO_4 HB GG44 HL983_0 HL984_0 HL986_0 HL988_0 HQ48 HR983_0 HR984_0 HR986_0 HR988_0 HX983_0 HX984_0 HX986_0 HX988_0 hf44_0 hx44_0 hx983_0 hx984_0 hx985_0 hx986_0 hx987_0 hx988_0 hx989_0 hHeld ⊢
                                                          refine pure_ (i := 0) (N := some 57) (v := ?_) (a' := ?_) #[true, false, false, false, false, false, false, false, false, false, false, false, false, false, false, false, false, false, false, false, false, false, false, false, false, false, false, false, false, false, false, false, false, false, false, false, false, false] rfl rfl (any_of HT_.out (by kernel_rfl)) (fun _ _ _ h => h) (Or.inl ⟨by rfl, ?_⟩) ?_ ?_
                                                          rotate_left
                                                          · intro w'
                                                            go_simp
                                                            with_reducible rfl
                                                          rotate_left
                                                          · simp only [Act.put, List.setIfInBounds_toArray, List.set_cons_zero, List.set_cons_succ, i64_w, i32_w]
                                                            rfl
                                                          refine pure_ (i := 1) (N := some 58) (v := ?_) (a' := ?_) #[true, true, false, false, false, false, false, false, false, false, false, false, false, false, false, false, false, false, false, false, false, false, false, false, false, false, false, false, false, false, false, false, false, false, false, false, false, false] rfl rfl (any_of HT_.out (by kernel_rfl)) (fun _ _ _ h => h) (Or.inl ⟨by rfl, ?_⟩) ?_ ?_
                                                          rotate_left
                                                          · intro w'
                                                            go_simp
                                                            with_reducible rfl
                                                          rotate_left
                                                          · simp only [Act.put, List.setIfInBounds_toArray, List.set_cons_zero, List.set_cons_succ, i64_w, i32_w]
                                                            rfl
                                                          refine pure_ (i := 2) (N := some 59) (v := ?_) (a' := ?_) #[true, true, true, false, false, false, false, false, false, false, false, false, false, false, false, false, false, false, false, false, false, false, false, false, false, false, false, false, false, false, false, false, false, false, false, false, false, false] rfl rfl (any_of HT_.out (by kernel_rfl)) (fun _ _ _ h => h) (Or.inl ⟨by rfl, ?_⟩) ?_ ?_
                                                          rotate_left
                                                          · intro w'
                                                            go_simp
                                                            with_reducible rfl
                                                          rotate_left
                                                          · simp only [Act.put, List.setIfInBounds_toArray, List.set_cons_zero, List.set_cons_succ, i64_w, i32_w]
                                                            rfl
                                                          refine pure_ (i := 4) (N := some 61) (v := ?_) (a' := ?_) #[true, true, true, false, true, false, false, false, false, false, false, false, false, false, false, false, false, false, false, false, false, false, false, false, false, false, false, false, false, false, false, false, false, false, false, false, false, false] rfl rfl (any_of HT_.out (by kernel_rfl)) (fun _ _ _ h => h) (Or.inl ⟨by rfl, ?_⟩) ?_ ?_
                                                          rotate_left
                                                          · intro w'
                                                            go_simp
                                                            with_reducible rfl
                                                          rotate_left
                                                          · simp only [Act.put, List.setIfInBounds_toArray, List.set_cons_zero, List.set_cons_succ, i64_w, i32_w]
                                                            rfl
                                                          refine pure_ (i := 5) (N := some 62) (v := ?_) (a' := ?_) #[true, true, true, false, true, true, false, false, false, false, false, false, false, false, false, false, false, false, false, false, false, false, false, false, false, false, false, false, false, false, false, false, false, false, false, false, false, false] rfl rfl (any_of HT_.out (by kernel_rfl)) (fun _ _ _ h => h) (Or.inl ⟨by rfl, ?_⟩) ?_ ?_
                                                          rotate_left
                                                          · intro w'
                                                            go_simp
                                                            with_reducible rfl
                                                          rotate_left
                                                          · simp only [Act.put, List.setIfInBounds_toArray, List.set_cons_zero, List.set_cons_succ, i64_w, i32_w]
                                                            rfl
                                                          refine pure_ (i := 6) (N := some 63) (v := ?_) (a' := ?_) #[true, true, true, false, true, true, true, false, false, false, false, false, false, false, false, false, false, false, false, false, false, false, false, false, false, false, false, false, false, false, false, false, false, false, false, false, false, false] rfl rfl (any_of HT_.out (by kernel_rfl)) (fun _ _ _ h => h) (Or.inl ⟨by rfl, ?_⟩) ?_ ?_
                                                          rotate_left
                                                          · intro w'
                                                            go_simp
                                                            with_reducible rfl
                                                          rotate_left
                                                          · simp only [Act.put, List.setIfInBounds_toArray, List.set_cons_zero, List.set_cons_succ, i64_w, i32_w]
                                                            rfl
                                                          refine pure_ (i := 7) (N := some 64) (v := ?_) (a' := ?_) #[true, true, true, false, true, true, true, true, false, false, false, false, false, false, false, false, false, false, false, false, false, false, false, false, false, false, false, false, false, false, false, false, false, false, false, false, false, false] rfl rfl (any_of HT_.out (by kernel_rfl)) (fun _ _ _ h => h) (Or.inl ⟨by rfl, ?_⟩) ?_ ?_
                                                          rotate_left
                                                          · intro w'
                                                            go_simp
                                                            with_reducible rfl
                                                          rotate_left
                                                          · simp only [Act.put, List.setIfInBounds_toArray, List.set_cons_zero, List.set_cons_succ, i64_w, i32_w]
                                                            rfl
                                                          refine pure_ (i := 9) (N := some 66) (v := ?_) (a' := ?_) #[true, true, true, false, true, true, true, true, false, true, false, false, false, false, false, false, false, false, false, false, false, false, false, false, false, false, false, false, false, false, false, false, false, false, false, false, false, false] rfl rfl (any_of HT_.out (by kernel_rfl)) (fun _ _ _ h => h) (Or.inl ⟨by rfl, ?_⟩) ?_ ?_
                                                          rotate_left
                                                          · intro w'
                                                            go_simp
                                                            with_reducible rfl
                                                          rotate_left
                                                          · simp only [Act.put, List.setIfInBounds_toArray, List.set_cons_zero, List.set_cons_succ, i64_w, i32_w]
                                                            rfl
                                                          refine pure_ (i := 12) (N := some 69) (v := ?_) (a' := ?_) #[true, true, true, false, true, true, true, true, false, true, false, false, true, false, false, false, false, false, false, false, false, false, false, false, false, false, false, false, false, false, false, false, false, false, false, false, false, false] rfl rfl (any_of HT_.out (by kernel_rfl)) (fun _ _ _ h => h) (Or.inl ⟨by rfl, ?_⟩) ?_ ?_
                                                          rotate_left
                                                          · intro w'
                                                            go_simp
                                                            with_reducible rfl
                                                          rotate_left
                                                          · simp only [Act.put, List.setIfInBounds_toArray, List.set_cons_zero, List.set_cons_succ, i64_w, i32_w]
                                                            rfl
                                                          refine pure_ (i := 13) (N := some 70) (v := ?_) (a' := ?_) #[true, true, true, false, true, true, true, true, false, true, false, false, true, true, false, false, false, false, false, false, false, false, false, false, false, false, false, false, false, false, false, false, false, false, false, false, false, false] rfl rfl (any_of HT_.out (by kernel_rfl)) (fun _ _ _ h => h) (Or.inl ⟨by rfl, ?_⟩) ?_ ?_
                                                          rotate_left
                                                          · intro w'
                                                            go_simp
                                                            with_reducible rfl
                                                          rotate_left
                                                          · simp only [Act.put, List.setIfInBounds_toArray, List.set_cons_zero, List.set_cons_succ, i64_w, i32_w]
                                                            rfl
                                                          refine pure_ (i := 14) (N := some 71) (v := ?_) (a' := ?_) #[true, true, true, false, true, true, true, true, false, true, false, false, true, true, true, false, false, false, false, false, false, false, false, false, false, false, false, false, false, false, false, false, false, false, false, false, false, false] rfl rfl (any_of HT_.out (by kernel_rfl)) (fun _ _ _ h => h) (Or.inl ⟨by rfl, ?_⟩) ?_ ?_
                                                          rotate_left
                                                          · intro w'
                                                            go_simp
                                                            with_reducible rfl
                                                          rotate_left
                                                          · simp only [Act.put, List.setIfInBounds_toArray, List.set_cons_zero, List.set_cons_succ, i64_w, i32_w]
                                                            rfl
                                                          refine pure_ (i := 15) (N := some 72) (v := ?_) (a' := ?_) #[true, true, true, false, true, true, true, true, false, true, false, false, true, true, true, true, false, false, false, false, false, false, false, false, false, false, false, false, false, false, false, false, false, false, false, false, false, false] rfl rfl (any_of HT_.out (by kernel_rfl)) (fun _ _ _ h => h) (Or.inl ⟨by rfl, ?_⟩) ?_ ?_
                                                          rotate_left
                                                          · intro w'
                                                            go_simp
                                                            with_reducible rfl
                                                          rotate_left
                                                          · simp only [Act.put, List.setIfInBounds_toArray, List.set_cons_zero, List.set_cons_succ, i64_w, i32_w]
                                                            rfl
                                                          refine pure_ (i := 17) (N := some 74) (v := ?_) (a' := ?_) #[true, true, true, false, true, true, true, true, false, true, false, false, true, true, true, true, false, true, false, false, false, false, false, false, false, false, false, false, false, false, false, false, false, false, false, false, false, false] rfl rfl (any_of HT_.out (by kernel_rfl)) (fun _ _ _ h => h) (Or.inl ⟨by rfl, ?_⟩) ?_ ?_
                                                          rotate_left
                                                          · intro w'
                                                            go_simp
                                                            with_reducible rfl
                                                          rotate_left
                                                          · simp only [Act.put, List.setIfInBounds_toArray, List.set_cons_zero, List.set_cons_succ, i64_w, i32_w]
                                                            rfl
                                                          refine pure_ (i := 18) (N := some 75) (v := ?_) (a' := ?_) #[true, true, true, false, true, true, true, true, false, true, false, false, true, true, true, true, false, true, true, false, false, false, false, false, false, false, false, false, false, false, false, false, false, false, false, false, false, false] rfl rfl (any_of HT_.out (by kernel_rfl)) (fun _ _ _ h => h) (Or.inl ⟨by rfl, ?_⟩) ?_ ?_
                                                          rotate_left
                                                          · intro w'
                                                            go_simp
                                                            with_reducible rfl
                                                          rotate_left
                                                          · simp only [Act.put, List.setIfInBounds_toArray, List.set_cons_zero, List.set_cons_succ, i64_w, i32_w]
                                                            rfl
                                                          refine pure_ (i := 21) (N := some 78) (v := ?_) (a' := ?_) #[true, true, true, false, true, true, true, true, false, true, false, false, true, true, true, true, false, true, true, false, false, true, false, false, false, false, false, false, false, false, false, false, false, false, false, false, false, false] rfl rfl (any_of HT_.out (by kernel_rfl)) (fun _ _ _ h => h) (Or.inl ⟨by rfl, ?_⟩) ?_ ?_
                                                          rotate_left
                                                          · intro w'
                                                            go_simp
                                                            with_reducible rfl
                                                          rotate_left
                                                          · simp only [Act.put, List.setIfInBounds_toArray, List.set_cons_zero, List.set_cons_succ, i64_w, i32_w]
                                                            rfl
                                                          refine pure_ (i := 22) (N := some 79) (v := ?_) (a' := ?_) #[true, true, true, false, true, true, true, true, false, true, false, false, true, true, true, true, false, true, true, false, false, true, true, false, false, false, false, false, false, false, false, false, false, false, false, false, false, false] rfl rfl (any_of HT_.out (by kernel_rfl)) (fun _ _ _ h => h) (Or.inl ⟨by rfl, ?_⟩) ?_ ?_
                                                          rotate_left
                                                          · intro w'
                                                            go_simp
                                                            with_reducible rfl
                                                          rotate_left
                                                          · simp only [Act.put, List.setIfInBounds_toArray, List.set_cons_zero, List.set_cons_succ, i64_w, i32_w]
                                                            rfl
                                                          refine pure_ (i := 23) (N := some 80) (v := ?_) (a' := ?_) #[true, true, true, false, true, true, true, true, false, true, false, false, true, true, true, true, false, true, true, false, false, true, true, true, false, false, false, false, false, false, false, false, false, false, false, false, false, false] rfl rfl (any_of HT_.out (by kernel_rfl)) (fun _ _ _ h => h) (Or.inl ⟨by rfl, ?_⟩) ?_ ?_
                                                          rotate_left
                                                          · intro w'
                                                            go_simp
                                                            with_reducible rfl
                                                          rotate_left
                                                          · simp only [Act.put, List.setIfInBounds_toArray, List.set_cons_zero, List.set_cons_succ, i64_w, i32_w]
                                                            rfl
                                                          refine pure_ (i := 24) (N := some 81) (v := ?_) (a' := ?_) #[true, true, true, false, true, true, true, true, false, true, false, false, true, true, true, true, false, true, true, false, false, true, true, true, true, false, false, false, false, false, false, false, false, false, false, false, false, false] rfl rfl (any_of HT_.out (by kernel_rfl)) (fun _ _ _ h => h) (Or.inl ⟨by rfl, ?_⟩) ?_ ?_
                                                          rotate_left
                                                          · intro w'
                                                            go_simp
                                                            with_reducible rfl
                                                          rotate_left
                                                          · simp only [Act.put, List.setIfInBounds_toArray, List.set_cons_zero, List.set_cons_succ, i64_w, i32_w]
                                                            rfl
                                                          refine pure_ (i := 25) (N := some 82) (v := ?_) (a' := ?_) #[true, true, true, false, true, true, true, true, false, true, false, false, true, true, true, true, false, true, true, false, false, true, true, true, true, true, false, false, false, false, false, false, false, false, false, false, false, false] rfl rfl (any_of HT_.out (by kernel_rfl)) (fun _ _ _ h => h) (Or.inl ⟨by rfl, ?_⟩) ?_ ?_
                                                          rotate_left
                                                          · intro w'
                                                            go_simp
                                                            with_reducible rfl
                                                          rotate_left
                                                          · simp only [Act.put, List.setIfInBounds_toArray, List.set_cons_zero, List.set_cons_succ, i64_w, i32_w]
                                                            rfl
                                                          refine pure_ (i := 26) (N := some 83) (v := ?_) (a' := ?_) #[true, true, true, false, true, true, true, true, false, true, false, false, true, true, true, true, false, true, true, false, false, true, true, true, true, true, true, false, false, false, false, false, false, false, false, false, false, false] rfl rfl (any_of HT_.out (by kernel_rfl)) (fun _ _ _ h => h) (Or.inl ⟨by rfl, ?_⟩) ?_ ?_
                                                          rotate_left
                                                          · intro w'
                                                            go_simp
                                                            with_reducible rfl
                                                          rotate_left
                                                          · simp only [Act.put, List.setIfInBounds_toArray, List.set_cons_zero, List.set_cons_succ, i64_w, i32_w]
                                                            rfl
                                                          refine pure_ (i := 28) (N := some 85) (v := ?_) (a' := ?_) #[true, true, true, false, true, true, true, true, false, true, false, false, true, true, true, true, false, true, true, false, false, true, true, true, true, true, true, false, true, false, false, false, false, false, false, false, false, false] rfl rfl (any_of HT_.out (by kernel_rfl)) (fun _ _ _ h => h) (Or.inl ⟨by rfl, ?_⟩) ?_ ?_
                                                          rotate_left
                                                          · intro w'
                                                            go_simp
                                                            with_reducible rfl
                                                          rotate_left
                                                          · simp only [Act.put, List.setIfInBounds_toArray, List.set_cons_zero, List.set_cons_succ, i64_w, i32_w]
                                                            rfl
                                                          refine pure_ (i := 29) (N := some 86) (v := ?_) (a' := ?_) #[true, true, true, false, true, true, true, true, false, true, false, false, true, true, true, true, false, true, true, false, false, true, true, true, true, true, true, false, true, true, false, false, false, false, false, false, false, false] rfl rfl (any_of HT_.out (by kernel_rfl)) (fun _ _ _ h => h) (Or.inl ⟨by rfl, ?_⟩) ?_ ?_
                                                          rotate_left
                                                          · intro w'
                                                            go_simp
                                                            with_reducible rfl
                                                          rotate_left
                                                          · simp only [Act.put, List.setIfInBounds_toArray, List.set_cons_zero, List.set_cons_succ, i64_w, i32_w]
                                                            rfl
                                                          refine pure_ (i := 30) (N := some 87) (v := ?_) (a' := ?_) #[true, true, true, false, true, true, true, true, false, true, false, false, true, true, true, true, false, true, true, false, false, true, true, true, true, true, true, false, true, true, true, false, false, false, false, false, false, false] rfl rfl (any_of HT_.out (by kernel_rfl)) (fun _ _ _ h => h) (Or.inl ⟨by rfl, ?_⟩) ?_ ?_
                                                          rotate_left
                                                          · intro w'
                                                            go_simp
                                                            with_reducible rfl
                                                          rotate_left
                                                          · simp only [Act.put, List.setIfInBounds_toArray, List.set_cons_zero, List.set_cons_succ, i64_w, i32_w]
                                                            rfl
                                                          refine pure_ (i := 31) (N := some 88) (v := ?_) (a' := ?_) #[true, true, true, false, true, true, true, true, false, true, false, false, true, true, true, true, false, true, true, false, false, true, true, true, true, true, true, false, true, true, true, true, false, false, false, false, false, false] rfl rfl (any_of HT_.out (by kernel_rfl)) (fun _ _ _ h => h) (Or.inl ⟨by rfl, ?_⟩) ?_ ?_
                                                          rotate_left
                                                          · intro w'
                                                            go_simp
                                                            with_reducible rfl
                                                          rotate_left
                                                          · simp only [Act.put, List.setIfInBounds_toArray, List.set_cons_zero, List.set_cons_succ, i64_w, i32_w]
                                                            rfl
                                                          refine take_ (i := 3) (N := some 60) (v := ?_) (a' := ?_) #[true, true, true, true, true, true, true, true, false, true, false, false, true, true, true, true, false, true, true, false, false, true, true, true, true, true, true, false, true, true, true, true, false, false, false, false, false, false] rfl rfl (take_ofW HT_.out HW_.out (by kernel_rfl)) (fun _ _ _ h => h) (Or.inl ⟨by rfl, ?_⟩) hHeld ?_ ?_
                                                          rotate_left
                                                          · rintro w' ⟨s0, s1, s2, s3, s4, s5, s6⟩
                                                            go_simp
                                                            with_reducible rfl
                                                          rotate_left
                                                          · simp only [Act.put, List.setIfInBounds_toArray, List.set_cons_zero, List.set_cons_succ, i64_w, i32_w]
                                                            rfl
                                                          refine take_ (i := 8) (N := some 65) (v := ?_) (a' := ?_) #[true, true, true, true, true, true, true, true, true, true, false, false, true, true, true, true, false, true, true, false, false, true, true, true, true, true, true, false, true, true, true, true, false, false, false, false, false, false] rfl rfl (take_ofW HT_.out HW_.out (by kernel_rfl)) (fun _ _ _ h => h) (Or.inl ⟨by rfl, ?_⟩) hHeld ?_ ?_
                                                          rotate_left
                                                          · rintro w' ⟨s0, s1, s2, s3, s4, s5, s6⟩
                                                            go_simp
                                                            with_reducible rfl
                                                          rotate_left
                                                          · simp only [Act.put, List.setIfInBounds_toArray, List.set_cons_zero, List.set_cons_succ, i64_w, i32_w]
                                                            rfl
                                                          refine pure_ (i := 10) (N := some 67) (v := ?_) (a' := ?_) #[true, true, true, true, true, true, true, true, true, true, true, false, true, true, true, true, false, true, true, false, false, true, true, true, true, true, true, false, true, true, true, true, false, false, false, false, false, false] rfl rfl (any_of HT_.out (by kernel_rfl)) (fun _ _ _ h => h) (Or.inl ⟨by rfl, ?_⟩) ?_ ?_
                                                          rotate_left
                                                          · intro w'
                                                            go_simp
                                                            with_reducible rfl
                                                          rotate_left
                                                          · simp only [Act.put, List.setIfInBounds_toArray, List.set_cons_zero, List.set_cons_succ, i64_w, i32_w]
                                                            rfl
                                                          refine take_ (i := 11) (N := some 68) (v := ?_) (a' := ?_) #[true, true, true, true, true, true, true, true, true, true, true, true, true, true, true, true, false, true, true, false, false, true, true, true, true, true, true, false, true, true, true, true, false, false, false, false, false, false] rfl rfl (take_ofW HT_.out HW_.out (by kernel_rfl)) (fun _ _ _ h => h) (Or.inl ⟨by rfl, ?_⟩) hHeld ?_ ?_
                                                          rotate_left
                                                          · rintro w' ⟨s0, s1, s2, s3, s4, s5, s6⟩
                                                            go_simp
                                                            with_reducible rfl
                                                          rotate_left
                                                          · simp only [Act.put, List.setIfInBounds_toArray, List.set_cons_zero, List.set_cons_succ, i64_w, i32_w]
                                                            rfl
                                                          refine take_ (i := 16) (N := some 73) (v := ?_) (a' := ?_) #[true, true, true, true, true, true, true, true, true, true, true, true, true, true, true, true, true, true, true, false, false, true, true, true, true, true, true, false, true, true, true, true, false, false, false, false, false, false] rfl rfl (take_ofW HT_.out HW_.out (by kernel_rfl)) (fun _ _ _ h => h) (Or.inl ⟨by rfl, ?_⟩) hHeld ?_ ?_
                                                          rotate_left
                                                          · rintro w' ⟨s0, s1, s2, s3, s4, s5, s6⟩
                                                            go_simp
                                                            with_reducible rfl
                                                          rotate_left
                                                          · simp only [Act.put, List.setIfInBounds_toArray, List.set_cons_zero, List.set_cons_succ, i64_w, i32_w]
                                                            rfl
                                                          refine pure_ (i := 19) (N := some 76) (v := ?_) (a' := ?_) #[true, true, true, true, true, true, true, true, true, true, true, true, true, true, true, true, true, true, true, true, false, true, true, true, true, true, true, false, true, true, true, true, false, false, false, false, false, false] rfl rfl (any_of HT_.out (by kernel_rfl)) (fun _ _ _ h => h) (Or.inl ⟨by rfl, ?_⟩) ?_ ?_
                                                          rotate_left
                                                          · intro w'
                                                            go_simp
                                                            with_reducible rfl
                                                          rotate_left
                                                          · simp only [Act.put, List.setIfInBounds_toArray, List.set_cons_zero, List.set_cons_succ, i64_w, i32_w]
                                                            rfl
                                                          refine take_ (i := 20) (N := some 77) (v := ?_) (a' := ?_) #[true, true, true, true, true, true, true, true, true, true, true, true, true, true, true, true, true, true, true, true, true, true, true, true, true, true, true, false, true, true, true, true, false, false, false, false, false, false] rfl rfl (take_ofW HT_.out HW_.out (by kernel_rfl)) (fun _ _ _ h => h) (Or.inl ⟨by rfl, ?_⟩) hHeld ?_ ?_
                                                          rotate_left
                                                          · rintro w' ⟨s0, s1, s2, s3, s4, s5, s6⟩
                                                            go_simp
                                                            with_reducible rfl
                                                          rotate_left
                                                          · simp only [Act.put, List.setIfInBounds_toArray, List.set_cons_zero, List.set_cons_succ, i64_w, i32_w]
                                                            rfl
                                                          refine take_ (i := 27) (N := some 84) (v := ?_) (a' := ?_) #[true, true, true, true, true, true, true, true, true, true, true, true, true, true, true, true, true, true, true, true, true, true, true, true, true, true, true, true, true, true, true, true, false, false, false, false, false, false] rfl rfl (take_ofW HT_.out HW_.out (by kernel_rfl)) (fun _ _ _ h => h) (Or.inl ⟨by rfl, ?_⟩) hHeld ?_ ?_
                                                          rotate_left
                                                          · rintro w' ⟨s0, s1, s2, s3, s4, s5, s6⟩
                                                            go_simp
                                                            with_reducible rfl
                                                          rotate_left
                                                          · simp only [Act.put, List.setIfInBounds_toArray, List.set_cons_zero, List.set_cons_succ, i64_w, i32_w]
                                                            rfl
                                                          refine pure_ (i := 32) (N := some 89) (v := ?_) (a' := ?_) #[true, true, true, true, true, true, true, true, true, true, true, true, true, true, true, true, true, true, true, true, true, true, true, true, true, true, true, true, true, true, true, true, true, false, false, false, false, false] rfl rfl (any_of HT_.out (by kernel_rfl)) (fun _ _ _ h => h) (Or.inl ⟨by rfl, ?_⟩) ?_ ?_
                                                          rotate_left
                                                          · intro w'
                                                            go_simp
                                                            with_reducible rfl
                                                          rotate_left
                                                          · simp only [Act.put, List.setIfInBounds_toArray, List.set_cons_zero, List.set_cons_succ, i64_w, i32_w]
                                                            rfl
                                                          refine take_ (i := 33) (N := some 90) (v := ?_) (a' := ?_) #[true, true, true, true, true, true, true, true, true, true, true, true, true, true, true, true, true, true, true, true, true, true, true, true, true, true, true, true, true, true, true, true, true, true, false, false, false, false] rfl rfl (take_ofW HT_.out HW_.out (by kernel_rfl)) (fun _ _ _ h => h) (Or.inl ⟨by rfl, ?_⟩) hHeld ?_ ?_
                                                          rotate_left
                                                          · rintro w' ⟨s0, s1, s2, s3, s4, s5, s6⟩
                                                            go_simp
                                                            with_reducible rfl
                                                          rotate_left
                                                          · simp only [Act.put, List.setIfInBounds_toArray, List.set_cons_zero, List.set_cons_succ, i64_w, i32_w]
                                                            rfl
                                                          refine pure_ (i := 34) (N := some 91) (v := ?_) (a' := ?_) #[true, true, true, true, true, true, true, true, true, true, true, true, true, true, true, true, true, true, true, true, true, true, true, true, true, true, true, true, true, true, true, true, true, true, true, false, false, false] rfl rfl (any_of HT_.out (by kernel_rfl)) (fun _ _ _ h => h) (Or.inl ⟨by rfl, ?_⟩) ?_ ?_
                                                          rotate_left
                                                          · intro w'
                                                            go_simp
                                                            with_reducible rfl
                                                          rotate_left
                                                          · simp only [Act.put, List.setIfInBounds_toArray, List.set_cons_zero, List.set_cons_succ, i64_w, i32_w]
                                                            rfl
                                                          refine pure_ (i := 35) (N := some 92) (v := ?_) (a' := ?_) #[true, true, true, true, true, true, true, true, true, true, true, true, true, true, true, true, true, true, true, true, true, true, true, true, true, true, true, true, true, true, true, true, true, true, true, true, false, false] rfl rfl (any_of HT_.out (by kernel_rfl)) (fun _ _ _ h => h) (Or.inl ⟨by rfl, ?_⟩) ?_ ?_
                                                          rotate_left
                                                          · intro w'
                                                            go_simp
                                                            with_reducible rfl
                                                          rotate_left
                                                          · simp only [Act.put, List.setIfInBounds_toArray, List.set_cons_zero, List.set_cons_succ, i64_w, i32_w]
                                                            rfl
                                                          refine pure_ (i := 36) (N := some 93) (v := ?_) (a' := ?_) #[true, true, true, true, true, true, true, true, true, true, true, true, true, true, true, true, true, true, true, true, true, true, true, true, true, true, true, true, true, true, true, true, true, true, true, true, true, false] rfl rfl (any_of HT_.out (by kernel_rfl)) (fun _ _ _ h => h) (Or.inl ⟨by rfl, ?_⟩) ?_ ?_
                                                          rotate_left
                                                          · intro w'
                                                            go_simp
                                                            with_reducible rfl
                                                          rotate_left
                                                          · simp only [Act.put, List.setIfInBounds_toArray, List.set_cons_zero, List.set_cons_succ, i64_w, i32_w]
                                                            rfl
                                                          refine last_ (i := 37) (N := none) #[true, true, true, true, true, true, true, true, true, true, true, true, true, true, true, true, true, true, true, true, true, true, true, true, true, true, true, true, true, true, true, true, true, true, true, true, true, true] rfl rfl (one_of HT_.out (by kernel_rfl)) (by decide) (fun K hK => ?_)
                                                          refine skip_ (w1 := ?_) (by rfl) rfl ?_ ?_
                                                          rotate_left
                                                          · go_simp
                                                            rfl
                                                          refine hK.out _ _ ?_
                                                          clear hK K
                                                          refine done_ (done_of HT_.out (by kernel_rfl)) ?_
                                                          try go_wp2
                                                          go_roundg k4
                                                          case measure => have := HK1.out; have := HK2.out; have := HK3.out; have := HK4.out; omega
                                                          case rel => exact ⟨(y992), (wrap64 (x8_4 + 2)), (by first | rfl | (simp; done) | (simp [*]; done) | (generalize ByteArray.toList _ = l_; cases l_ <;> rfl)), H', ⟨by have := HK1.out; have := HK2.out; have := HK3.out; have := HK4.out; omega⟩, ⟨by (with_reducible repeat (first | apply Kd.S_alloc | apply Kd.S_drewN | apply Kd.S_drew)); exact HQ48.out⟩, ⟨by repeat (first | (with_reducible first | exact HB.out | apply below_alloc | apply pw_below_drewN | apply below_drew1 | refine below_set ?_ GB44.out) | exact HB.out)⟩⟩
                                                        · rw [if_neg c43] at H
                                                          exact absurd H (by simp)
                                                      · rw [if_neg c42] at H
                                                        exact absurd H (by simp)
                                                    · rw [if_neg c40] at H
                                                      exact absurd H (by simp)
                                                  · rw [if_neg c39] at H
                                                    exact absurd H (by simp)
                                                · rw [if_neg c37] at H
                                                  exact absurd H (by simp)
                                              · rw [if_neg c36] at H
                                                exact absurd H (by simp)
                                            · rw [if_neg c34] at H
                                              exact absurd H (by simp)
                                          · rw [if_neg c33] at H
                                            exact absurd H (by simp)
                                        · rw [if_neg c31] at H
                                          exact absurd H (by simp)
                                      · rw [if_neg c30] at H
                                        exact absurd H (by simp)
                                    · rw [if_neg c29] at H
                                      exact absurd H (by simp)
                                  · rw [if_neg c28] at H
                                    have c28b0 : ((rd l0 (ji23)) == (wrap64 (-(rd l0 x7_3)))) = false := beq_eq_false_iff_ne.mpr c28
                                    have c28b1 : ((rd l0 (ji23)) != (wrap64 (-(rd l0 x7_3)))) = true := bne_iff_ne.mpr c28
                                    have H' := Aside0.mk H
                                    clear H
                                    try go_wp2
                                    have n0_ := Aside0.mk (Kd.S_drew HO_4.out)
                                    have n1_ := Aside0.mk (below_drew1 HB.out)
                                    clear HO_4
                                    clear HB
                                    have HO_4 := n0_
                                    have HB := n1_
                                    clear n0_ n1_
                                    have p981 : 0 ≤ ((ji23) : Int) := of_decide_eq_true (by first | (with_reducible assumption) | assumption)
                                    have q981 : (ji23) < (l0.length : Int) := of_decide_eq_true (by first | (with_reducible assumption) | assumption)
                                    obtain ⟨ad981, e981, hx981_0⟩ := Kd.at_int HR0.out (ji23) p981 q981
                                    have hw981_0 := hx981_0
                                    cases e981
                                    replace hx981_0 := (HB.out.cell (World.block_lt_of_cell? w _ hx981_0)).trans hx981_0
                                    replace p981 := eq_true p981
                                    replace q981 := eq_true q981
                                    have p982 : 0 ≤ (x7_3 : Int) := of_decide_eq_true (by first | (with_reducible assumption) | assumption)
                                    have q982 : x7_3 < (l0.length : Int) := of_decide_eq_true (by first | (with_reducible assumption) | assumption)
                                    obtain ⟨ad982, e982, hx982_0⟩ := Kd.at_int HR0.out x7_3 p982 q982
                                    have hw982_0 := hx982_0
                                    obtain rfl : ad981 = ad982 := (by injection e982)
                                    replace hx982_0 := (HB.out.cell (World.block_lt_of_cell? w _ hx982_0)).trans hx982_0
                                    replace p982 := eq_true p982
                                    replace q982 := eq_true q982
                                    refine start_ (n := 12) (S := fun w' => w'.cell? (ad981.add ((ji23)).toNat) = some (.int .i64 (rd l0 (ji23))) ∧ w'.cell? (ad981.add (x7_3).toNat) = some (.int .i64 (rd l0 x7_3))) (ds := []) #[false, false, false, false, false, false, false, false, false, false, false, false] (by kernel_rfl) rfl rfl ⟨((HB.out.cell (World.block_lt_of_cell? w _ hw981_0)).trans hw981_0), ((HB.out.cell (World.block_lt_of_cell? w _ hw982_0)).trans hw982_0)⟩ (fun hHeld => ?_); refine with_tabW spec_l11Count.tab17 spec_l11Count.bits17 (fun HT_ HW_ => ?_)
                                    generalize wr.drew = w50 at HO_4 HB hx981_0 hx982_0 hHeld ⊢
                                    refine pure_ (i := 0) (N := some 45) (v := ?_) (a' := ?_) #[true, false, false, false, false, false, false, false, false, false, false, false] rfl rfl (any_of HT_.out (by kernel_rfl)) (fun _ _ _ h => h) (Or.inl ⟨by rfl, ?_⟩) ?_ ?_
                                    rotate_left
                                    · intro w'
                                      go_simp
                                      with_reducible rfl
                                    rotate_left
                                    · simp only [Act.put, List.setIfInBounds_toArray, List.set_cons_zero, List.set_cons_succ, i64_w, i32_w]
                                      rfl
                                    refine pure_ (i := 1) (N := some 46) (v := ?_) (a' := ?_) #[true, true, false, false, false, false, false, false, false, false, false, false] rfl rfl (any_of HT_.out (by kernel_rfl)) (fun _ _ _ h => h) (Or.inl ⟨by rfl, ?_⟩) ?_ ?_
                                    rotate_left
                                    · intro w'
                                      go_simp
                                      with_reducible rfl
                                    rotate_left
                                    · simp only [Act.put, List.setIfInBounds_toArray, List.set_cons_zero, List.set_cons_succ, i64_w, i32_w]
                                      rfl
                                    refine pure_ (i := 2) (N := some 47) (v := ?_) (a' := ?_) #[true, true, true, false, false, false, false, false, false, false, false, false] rfl rfl (any_of HT_.out (by kernel_rfl)) (fun _ _ _ h => h) (Or.inl ⟨by rfl, ?_⟩) ?_ ?_
                                    rotate_left
                                    · intro w'
                                      go_simp
                                      with_reducible rfl
                                    rotate_left
                                    · simp only [Act.put, List.setIfInBounds_toArray, List.set_cons_zero, List.set_cons_succ, i64_w, i32_w]
                                      rfl
                                    refine pure_ (i := 3) (N := some 48) (v := ?_) (a' := ?_) #[true, true, true, true, false, false, false, false, false, false, false, false] rfl rfl (any_of HT_.out (by kernel_rfl)) (fun _ _ _ h => h) (Or.inl ⟨by rfl, ?_⟩) ?_ ?_
                                    rotate_left
                                    · intro w'
                                      go_simp
                                      with_reducible rfl
                                    rotate_left
                                    · simp only [Act.put, List.setIfInBounds_toArray, List.set_cons_zero, List.set_cons_succ, i64_w, i32_w]
                                      rfl
                                    refine pure_ (i := 4) (N := some 49) (v := ?_) (a' := ?_) #[true, true, true, true, true, false, false, false, false, false, false, false] rfl rfl (any_of HT_.out (by kernel_rfl)) (fun _ _ _ h => h) (Or.inl ⟨by rfl, ?_⟩) ?_ ?_
                                    rotate_left
                                    · intro w'
                                      go_simp
                                      with_reducible rfl
                                    rotate_left
                                    · simp only [Act.put, List.setIfInBounds_toArray, List.set_cons_zero, List.set_cons_succ, i64_w, i32_w]
                                      rfl
                                    refine pure_ (i := 6) (N := some 51) (v := ?_) (a' := ?_) #[true, true, true, true, true, false, true, false, false, false, false, false] rfl rfl (any_of HT_.out (by kernel_rfl)) (fun _ _ _ h => h) (Or.inl ⟨by rfl, ?_⟩) ?_ ?_
                                    rotate_left
                                    · intro w'
                                      go_simp
                                      with_reducible rfl
                                    rotate_left
                                    · simp only [Act.put, List.setIfInBounds_toArray, List.set_cons_zero, List.set_cons_succ, i64_w, i32_w]
                                      rfl
                                    refine pure_ (i := 7) (N := some 52) (v := ?_) (a' := ?_) #[true, true, true, true, true, false, true, true, false, false, false, false] rfl rfl (any_of HT_.out (by kernel_rfl)) (fun _ _ _ h => h) (Or.inl ⟨by rfl, ?_⟩) ?_ ?_
                                    rotate_left
                                    · intro w'
                                      go_simp
                                      with_reducible rfl
                                    rotate_left
                                    · simp only [Act.put, List.setIfInBounds_toArray, List.set_cons_zero, List.set_cons_succ, i64_w, i32_w]
                                      rfl
                                    refine pure_ (i := 8) (N := some 53) (v := ?_) (a' := ?_) #[true, true, true, true, true, false, true, true, true, false, false, false] rfl rfl (any_of HT_.out (by kernel_rfl)) (fun _ _ _ h => h) (Or.inl ⟨by rfl, ?_⟩) ?_ ?_
                                    rotate_left
                                    · intro w'
                                      go_simp
                                      with_reducible rfl
                                    rotate_left
                                    · simp only [Act.put, List.setIfInBounds_toArray, List.set_cons_zero, List.set_cons_succ, i64_w, i32_w]
                                      rfl
                                    refine take_ (i := 5) (N := some 50) (v := ?_) (a' := ?_) #[true, true, true, true, true, true, true, true, true, false, false, false] rfl rfl (take_ofW HT_.out HW_.out (by kernel_rfl)) (fun _ _ _ h => h) (Or.inl ⟨by rfl, ?_⟩) hHeld ?_ ?_
                                    rotate_left
                                    · rintro w' ⟨s0, s1⟩
                                      go_simp
                                      with_reducible rfl
                                    rotate_left
                                    · simp only [Act.put, List.setIfInBounds_toArray, List.set_cons_zero, List.set_cons_succ, i64_w, i32_w]
                                      rfl
                                    refine take_ (i := 9) (N := some 54) (v := ?_) (a' := ?_) #[true, true, true, true, true, true, true, true, true, true, false, false] rfl rfl (take_ofW HT_.out HW_.out (by kernel_rfl)) (fun _ _ _ h => h) (Or.inl ⟨by rfl, ?_⟩) hHeld ?_ ?_
                                    rotate_left
                                    · rintro w' ⟨s0, s1⟩
                                      go_simp
                                      with_reducible rfl
                                    rotate_left
                                    · simp only [Act.put, List.setIfInBounds_toArray, List.set_cons_zero, List.set_cons_succ, i64_w, i32_w]
                                      rfl
                                    refine pure_ (i := 10) (N := some 55) (v := ?_) (a' := ?_) #[true, true, true, true, true, true, true, true, true, true, true, false] rfl rfl (any_of HT_.out (by kernel_rfl)) (fun _ _ _ h => h) (Or.inl ⟨by rfl, ?_⟩) ?_ ?_
                                    rotate_left
                                    · intro w'
                                      go_simp
                                      with_reducible rfl
                                    rotate_left
                                    · simp only [Act.put, List.setIfInBounds_toArray, List.set_cons_zero, List.set_cons_succ, i64_w, i32_w]
                                      rfl
                                    refine pure_ (i := 11) (N := some 56) (v := ?_) (a' := ?_) #[true, true, true, true, true, true, true, true, true, true, true, true] rfl rfl (any_of HT_.out (by kernel_rfl)) (fun _ _ _ h => h) (Or.inl ⟨by rfl, ?_⟩) ?_ ?_
                                    rotate_left
                                    · intro w'
                                      go_simp
                                      with_reducible rfl
                                    rotate_left
                                    · simp only [Act.put, List.setIfInBounds_toArray, List.set_cons_zero, List.set_cons_succ, i64_w, i32_w]
                                      rfl
                                    refine done_ (done_of HT_.out (by kernel_rfl)) ?_
                                    try go_wp2
                                    go_roundg k4
                                    case measure => have := HK1.out; have := HK2.out; have := HK3.out; have := HK4.out; omega
                                    case rel => exact ⟨(x4_4), (wrap64 (x8_4 + 2)), (by first | rfl | (simp; done) | (simp [*]; done) | (generalize ByteArray.toList _ = l_; cases l_ <;> rfl)), H', ⟨by have := HK1.out; have := HK2.out; have := HK3.out; have := HK4.out; omega⟩, ⟨by (with_reducible repeat (first | apply Kd.S_alloc | apply Kd.S_drewN | apply Kd.S_drew)); exact HO_4.out⟩, ⟨by repeat (first | (with_reducible first | exact HB.out | apply below_alloc | apply pw_below_drewN | apply below_drew1) | exact HB.out)⟩⟩
                                · rw [if_neg c27] at H
                                  exact absurd H (by simp)
                              · rw [if_neg c26] at H
                                exact absurd H (by simp)
                            · rw [if_neg c25] at H
                              exact absurd H (by simp)
                          · rw [if_neg c24] at H
                            exact absurd H (by simp)
                        · rw [if_neg c22] at H
                          have c22b0 : decide (x8_4 < x6_2) = false := decide_eq_false c22
                          clear c22
                          have H' := Aside0.mk H
                          clear H
                          go_wp2
                          go_roundg k4
                          case measure => have := HK1.out; have := HK2.out; have := HK3.out; have := HK4.out; omega
                          case rel => exact ⟨(x4_4), (wrap64 (x7_3 + 1)), (by first | rfl | (simp; done) | (simp [*]; done) | (generalize ByteArray.toList _ = l_; cases l_ <;> rfl)), H', ⟨by have := HK1.out; have := HK2.out; have := HK3.out; have := HK4.out; omega⟩, ⟨by (with_reducible repeat (first | apply Kd.S_alloc | apply Kd.S_drewN | apply Kd.S_drew)); exact HO_4.out⟩, ⟨by repeat (first | (with_reducible first | exact HB.out | apply below_alloc | apply pw_below_drewN | apply below_drew1) | exact HB.out)⟩⟩
                  · rw [if_neg c21] at H
                    have c21b0 : decide ((wrap64 (x7_3 + x6_2)) ≤ (l0.length : Int)) = false := decide_eq_false c21
                    clear c21
                    have H' := Aside0.mk H
                    clear H
                    go_wp2
                    go_roundg k3
                    case measure => have := HK1.out; have := HK2.out; have := HK3.out; omega
                    case rel => exact ⟨(x4_3), (wrap64 (x6_2 + 2)), (by first | rfl | (simp; done) | (simp [*]; done) | (generalize ByteArray.toList _ = l_; cases l_ <;> rfl)), H', ⟨by have := HK1.out; have := HK2.out; have := HK3.out; omega⟩, ⟨by (with_reducible repeat (first | apply Kd.S_alloc | apply Kd.S_drewN | apply Kd.S_drew)); exact HO_4.out⟩, ⟨by repeat (first | (with_reducible first | exact HB.out | apply below_alloc | apply pw_below_drewN | apply below_drew1) | exact HB.out)⟩⟩
            · rw [if_neg c20] at H
              have c20b0 : decide (x6_2 ≤ (l0.length : Int)) = false := decide_eq_false c20
              clear c20
              by_cases c51 : 0 < (x4_2.length : Int)
              · rw [if_pos c51] at H
                have c51b0 : decide (0 < (x4_2.length : Int)) = true := decide_eq_true c51
                have c51b1 : decide (0 < x4_2.length) = true := decide_eq_true (by omega)
                clear c51
                by_cases c52 : 0 ≤ (l0.length : Int)
                · rw [if_pos c52] at H
                  have c52b0 : decide (0 ≤ (l0.length : Int)) = true := decide_eq_true c52
                  have c52b1 : decide (0 ≤ l0.length) = true := decide_eq_true (by omega)
                  clear c52
                  by_cases c53 : (l0.length : Int) < ((rd_L1 x4_2 0).length : Int)
                  · rw [if_pos c53] at H
                    have c53b0 : decide ((l0.length : Int) < ((rd_L1 x4_2 0).length : Int)) = true := decide_eq_true c53
                    have c53b1 : decide (l0.length < (rd_L1 x4_2 0).length) = true := decide_eq_true (Int.ofNat_lt.mp c53)
                    clear c53
                    obtain rfl := Option.some.inj H
                    obtain ⟨Ao54, co54, eo54⟩ := Kd.S_slice HO_4.out
                    subst eo54
                    have p979 : 0 ≤ (0 : Int) := (by omega)
                    have q979 : 0 < (x4_2.length : Int) := of_decide_eq_true (by first | (with_reducible assumption) | assumption)
                    obtain ⟨ad979, A979_0, c979_0, e979, hx979_0, hl979_0, hi979_0⟩ := at_L1 (Kd.S_reads' HO_4.out).2.2 0 p979 q979
                    cases e979
                    obtain ⟨ce979, hce979, hMe979, hcc979⟩ := Kd.S_get HO_4.out [] 0 p979 (by first | exact q979 | exact of_decide_eq_true (by first | (with_reducible assumption) | assumption) | (have e_ := (Kd.S_reads' HO_4.out).1; omega))
                    obtain ⟨ve979_0, rfl, ge979_0⟩ := hMe979
                    have hv979_0 := hcc979 0 _ rfl
                    rw [Nat.add_zero, show ((Kd.slice 3 (Kd.int .i64))).sz = 1 from rfl, Nat.mul_one] at hv979_0
                    replace hv979_0 := Option.some.inj (hv979_0.symm.trans hx979_0)
                    rw [hv979_0] at ge979_0
                    have HL979_0 := Aside0.mk (show Kd.R (Kd.int .i64) 3 _ _ _ _ (rd_L1 x4_2 0) from ge979_0)
                    clear hv979_0 ge979_0
                    have HX979_0 := Aside0.mk hx979_0
                    clear hcc979 hce979
                    have qi979 : (0 < x4_2.length) = True := eq_true (by omega)
                    (try rw [show ((0 : Int)).toNat = 0 from rfl] at hx979_0)
                    (try rw [Addr.add_zero'] at hx979_0)
                    have HR979_0 := Aside0.mk hi979_0
                    have HC979_0 := Aside0.mk hl979_0
                    clear hi979_0 hl979_0
                    replace p979 := eq_true p979
                    replace q979 := eq_true q979
                    have p980 : 0 ≤ ((l0.length : Int) : Int) := of_decide_eq_true (by first | (with_reducible assumption) | assumption)
                    have q980 : (l0.length : Int) < ((rd_L1 x4_2 0).length : Int) := of_decide_eq_true (by first | (with_reducible assumption) | assumption)
                    obtain ⟨ad980, e980, hx980_0⟩ := Kd.at_int (by repeat (first | (with_reducible exact HR979_0.out) | (with_reducible refine Kd.C_alloc ?_ _) | (with_reducible refine Kd.C_drewN ?_ _) | (with_reducible refine Kd.C_drew ?_) | exact HR979_0.out)) (l0.length : Int) p980 q980
                    cases e980
                    (try simp only [Go.IntWalk.toNatUp] at hx980_0)
                    replace p980 := eq_true p980
                    replace q980 := eq_true q980
                    go_wp2
                    go_ret
                    exact ⟨by first | rfl | (simp [errW_none, errW_some] <;> rfl) | (simp [*, errW_none, errW_some] <;> rfl), by repeat (first | (with_reducible first | exact HB.out | apply below_alloc | apply pw_below_drewN | apply below_drew1) | exact HB.out)⟩
                  · rw [if_neg c53] at H
                    exact absurd H (by simp)
                · rw [if_neg c52] at H
                  exact absurd H (by simp)
              · rw [if_neg c51] at H
                exact absurd H (by simp)

end Go.Proofs.Ytgifhmjbmnopcaa.Px
