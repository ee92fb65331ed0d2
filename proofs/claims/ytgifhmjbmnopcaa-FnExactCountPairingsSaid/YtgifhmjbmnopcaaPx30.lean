-- Written by gprint.py (wip/gprint.py of this repo), out of the translation. Not trusted: Lean checks it.
import Derived.Test.YtgifhmjbmnopcaaPx0
import Derived.Test.YtgifhmjbmnopcaaGivA
namespace Go.Proofs.Ytgifhmjbmnopcaa.Px
end Go.Proofs.Ytgifhmjbmnopcaa.Px
namespace Go.Proofs.Ytgifhmjbmnopcaa.Giv
end Go.Proofs.Ytgifhmjbmnopcaa.Giv
namespace Go.Proofs.Ytgifhmjbmnopcaa.Px
open Go.Proofs.Ytgifhmjbmnopcaa.Giv
open Go.RowKit Go.Proofs.YtgifhmjbmnopcaaW.PrintWords Go.Proofs.YtgifhmjbmnopcaaW.PrintLast Go.Proofs.YtgifhmjbmnopcaaW.PrintMore
attribute [local go_sem] max2_int min2_int max_two min_two max_three min_three max_four min_four   -- for this text's walks alone
set_option linter.unusedVariables false
set_option linter.unusedSimpArgs false

/-! ### impl_CountPairings: function 28 -/
mutual
def impl_CountPairings.j0 : Nat → List Int → Bool → Option (Int × Bool)
  | 0, _, _ => none
  | k + 1, x0, x16 => if x16 = true then (some (0, false)) else (if 0 ≤ (wrap64 ((x0.length : Int) + 1)) then (if (wrap64 ((x0.length : Int) + 1) : Int).toNat ≤ 11728124029610 then (impl_CountPairings.l0 k x0 (x0.length : Int) (List.replicate (wrap64 ((x0.length : Int) + 1) : Int).toNat []) (x0.length : Int)) else (none)) else (none))
def impl_CountPairings.l0 : Nat → List Int → Int → List (List Int) → Int → Option (Int × Bool)
  | 0, _, _, _, _ => none
  | k + 1, x0, x4, x5, x6 => if x6 ≥ 0 then (if 0 ≤ (wrap64 (x4 + 1)) then (if (wrap64 (x4 + 1) : Int).toNat ≤ 35184372088832 then (if 0 ≤ x6 then (if x6 < (x5.length : Int) then ((some (x5.set (x6 : Int).toNat (List.replicate (wrap64 (x4 + 1) : Int).toNat 0) : List (List Int))).bind fun y1005 => (if x6 < ((rd_L1 y1005 x6).length : Int) then (impl_CountPairings.l1 k x0 x4 (y1005.set (x6 : Int).toNat ((rd_L1 y1005 x6).set (x6 : Int).toNat 1)) x6 (wrap64 (x6 + 2))) else (none))) else (none)) else (none)) else (none)) else (none)) else (if 0 < (x5.length : Int) then (if 0 ≤ x4 then (if x4 < ((rd_L1 x5 0).length : Int) then (some (rd (rd_L1 x5 0) x4, true)) else (none)) else (none)) else (none))
def impl_CountPairings.l1 : Nat → List Int → Int → List (List Int) → Int → Int → Option (Int × Bool)
  | 0, _, _, _, _, _ => none
  | k + 1, x0, x4, x5, x6, x7 => if x7 ≤ x4 then (impl_CountPairings.l2 k x0 x4 x5 x6 x7 (wrap64 (x6 + 1))) else (impl_CountPairings.l0 k x0 x4 x5 (wrap64 (x6 - 1)))
def impl_CountPairings.l2 : Nat → List Int → Int → List (List Int) → Int → Int → Int → Option (Int × Bool)
  | 0, _, _, _, _, _, _ => none
  | k + 1, x0, x4, x5, x6, x7, x8 => if x8 < x7 then (if 0 ≤ x8 then (if x8 < (x0.length : Int) then (if 0 ≤ x6 then (if x6 < (x0.length : Int) then (if (rd x0 x8) = (wrap64 (-(rd x0 x6))) then (if x6 < (x5.length : Int) then (if 0 ≤ x7 then (if x7 < ((rd_L1 x5 x6).length : Int) then (if 0 ≤ (wrap64 (x6 + 1)) then (if (wrap64 (x6 + 1)) < (x5.length : Int) then (if x8 < ((rd_L1 x5 (wrap64 (x6 + 1))).length : Int) then (if 0 ≤ (wrap64 (x8 + 1)) then (if (wrap64 (x8 + 1)) < (x5.length : Int) then (if x7 < ((rd_L1 x5 (wrap64 (x8 + 1))).length : Int) then (impl_CountPairings.l2 k x0 x4 (x5.set (x6 : Int).toNat ((rd_L1 x5 x6).set (x7 : Int).toNat (wrap64 ((rd (rd_L1 x5 x6) x7) + (wrap64 ((rd (rd_L1 x5 (wrap64 (x6 + 1))) x8) * (rd (rd_L1 x5 (wrap64 (x8 + 1))) x7))))))) x6 x7 (wrap64 (x8 + 2))) else (none)) else (none)) else (none)) else (none)) else (none)) else (none)) else (none)) else (none)) else (none)) else (impl_CountPairings.l2 k x0 x4 x5 x6 x7 (wrap64 (x8 + 2)))) else (none)) else (none)) else (none)) else (none)) else (impl_CountPairings.l1 k x0 x4 x5 x6 (wrap64 (x7 + 2)))
end
def impl_CountPairings.f (k : Nat) (l0 : List Int) : Option (Int × Bool) := (impl_isWord.f l0).bind fun t996 => (if t996 = true then (impl_CountPairings.j0 k l0 (decide ((l0.length : Int) > 20))) else (impl_CountPairings.j0 k l0 true))
theorem impl_CountPairings.mono_l : ∀ k, (∀ y0 y1, LeO (impl_CountPairings.j0 k y0 y1) (impl_CountPairings.j0 (k + 1) y0 y1)) ∧ (∀ y0 y1 y2 y3, LeO (impl_CountPairings.l0 k y0 y1 y2 y3) (impl_CountPairings.l0 (k + 1) y0 y1 y2 y3)) ∧ (∀ y0 y1 y2 y3 y4, LeO (impl_CountPairings.l1 k y0 y1 y2 y3 y4) (impl_CountPairings.l1 (k + 1) y0 y1 y2 y3 y4)) ∧ (∀ y0 y1 y2 y3 y4 y5, LeO (impl_CountPairings.l2 k y0 y1 y2 y3 y4 y5) (impl_CountPairings.l2 (k + 1) y0 y1 y2 y3 y4 y5))
  | 0 => ⟨fun _ _ r h => by simp [impl_CountPairings.j0] at h, fun _ _ _ _ r h => by simp [impl_CountPairings.l0] at h, fun _ _ _ _ _ r h => by simp [impl_CountPairings.l1] at h, fun _ _ _ _ _ _ r h => by simp [impl_CountPairings.l2] at h⟩
  | k + 1 => by
    obtain ⟨ih0, ih1, ih2, ih3⟩ := impl_CountPairings.mono_l k
    refine ⟨?_, ?_, ?_, ?_⟩
    · intro y0 y1
      unfold impl_CountPairings.j0
      repeat' first
      | (with_reducible exact ih0 _ _)
      | (with_reducible exact ih1 _ _ _ _)
      | (with_reducible exact ih2 _ _ _ _ _)
      | (with_reducible exact ih3 _ _ _ _ _ _)
      | (with_reducible exact LeO.refl _)
      | (with_reducible exact LeO.none _)
      | (with_reducible refine LeO.ite ?_ ?_)
      | (with_reducible refine LeO.bind ?_ (fun _ => ?_))
      | exact ih0 _ _
      | exact ih1 _ _ _ _
      | exact ih2 _ _ _ _ _
      | exact ih3 _ _ _ _ _ _
      | exact LeO.none _
      | refine LeO.ite ?_ ?_
      | refine LeO.bind ?_ (fun _ => ?_)
    · intro y0 y1 y2 y3
      unfold impl_CountPairings.l0
      repeat' first
      | (with_reducible exact ih0 _ _)
      | (with_reducible exact ih1 _ _ _ _)
      | (with_reducible exact ih2 _ _ _ _ _)
      | (with_reducible exact ih3 _ _ _ _ _ _)
      | (with_reducible exact LeO.refl _)
      | (with_reducible exact LeO.none _)
      | (with_reducible refine LeO.ite ?_ ?_)
      | (with_reducible refine LeO.bind ?_ (fun _ => ?_))
      | exact ih0 _ _
      | exact ih1 _ _ _ _
      | exact ih2 _ _ _ _ _
      | exact ih3 _ _ _ _ _ _
      | exact LeO.none _
      | refine LeO.ite ?_ ?_
      | refine LeO.bind ?_ (fun _ => ?_)
    · intro y0 y1 y2 y3 y4
      unfold impl_CountPairings.l1
      repeat' first
      | (with_reducible exact ih0 _ _)
      | (with_reducible exact ih1 _ _ _ _)
      | (with_reducible exact ih2 _ _ _ _ _)
      | (with_reducible exact ih3 _ _ _ _ _ _)
      | (with_reducible exact LeO.refl _)
      | (with_reducible exact LeO.none _)
      | (with_reducible refine LeO.ite ?_ ?_)
      | (with_reducible refine LeO.bind ?_ (fun _ => ?_))
      | exact ih0 _ _
      | exact ih1 _ _ _ _
      | exact ih2 _ _ _ _ _
      | exact ih3 _ _ _ _ _ _
      | exact LeO.none _
      | refine LeO.ite ?_ ?_
      | refine LeO.bind ?_ (fun _ => ?_)
    · intro y0 y1 y2 y3 y4 y5
      unfold impl_CountPairings.l2
      repeat' first
      | (with_reducible exact ih0 _ _)
      | (with_reducible exact ih1 _ _ _ _)
      | (with_reducible exact ih2 _ _ _ _ _)
      | (with_reducible exact ih3 _ _ _ _ _ _)
      | (with_reducible exact LeO.refl _)
      | (with_reducible exact LeO.none _)
      | (with_reducible refine LeO.ite ?_ ?_)
      | (with_reducible refine LeO.bind ?_ (fun _ => ?_))
      | exact ih0 _ _
      | exact ih1 _ _ _ _
      | exact ih2 _ _ _ _ _
      | exact ih3 _ _ _ _ _ _
      | exact LeO.none _
      | refine LeO.ite ?_ ?_
      | refine LeO.bind ?_ (fun _ => ?_)
theorem impl_CountPairings.mono : ∀ a0 k, LeO (impl_CountPairings.f k a0) (impl_CountPairings.f (k + 1) a0) := by
  intro a0 k
  obtain ⟨ih0, ih1, ih2, ih3⟩ := impl_CountPairings.mono_l k
  unfold impl_CountPairings.f
  repeat' first
      | (with_reducible exact ih0 _ _)
      | (with_reducible exact ih1 _ _ _ _)
      | (with_reducible exact ih2 _ _ _ _ _)
      | (with_reducible exact ih3 _ _ _ _ _ _)
      | (with_reducible exact LeO.refl _)
      | (with_reducible exact LeO.none _)
      | (with_reducible refine LeO.ite ?_ ?_)
      | (with_reducible refine LeO.bind ?_ (fun _ => ?_))
      | exact ih0 _ _
      | exact ih1 _ _ _ _
      | exact ih2 _ _ _ _ _
      | exact ih3 _ _ _ _ _ _
      | exact LeO.none _
      | refine LeO.ite ?_ ?_
      | refine LeO.bind ?_ (fun _ => ?_)
def impl_CountPairings.T16 : Bool × List (List Nat × List Nat) := (true, [([], []), ([], []), ([0, 1], [0, 1]), ([2], [2]), ([], []), ([], []), ([4, 5], [4, 5]), ([6], [6]), ([7], [7]), ([3, 8], [3, 8])])
def impl_CountPairings.B16 : List Nat := [0, 0, 3, 7, 0, 0, 48, 112, 240, 511]
theorem impl_CountPairings.tab16 : rtab .any (opsOf Try.f28 16) = impl_CountPairings.T16 := by kernel_rfl
theorem impl_CountPairings.bits16 : waitsOk impl_CountPairings.T16.2 impl_CountPairings.B16 = true := by kernel_rfl
def impl_CountPairings.T17 : Bool × List (List Nat × List Nat) := (true, [([], []), ([], []), ([0, 1], [0, 1]), ([2], [2]), ([], []), ([3, 4], [3, 4]), ([5], [5]), ([], []), ([], []), ([8], [8]), ([7, 9], [7, 9]), ([10], [10]), ([], []), ([11, 12], [11, 12]), ([13], [13]), ([], []), ([], []), ([16], [16]), ([15, 17], [15, 17]), ([18], [18]), ([], []), ([19, 20], [19, 20]), ([21], [21]), ([14, 22], [14, 22]), ([6, 23], [6, 23]), ([3, 4, 0, 1, 2, 3, 4, 5, 6, 7, 8, 9, 10, 11, 12, 13, 14, 15, 16, 17, 18, 19, 20, 21, 22, 23, 24], [3, 4]), ([25, 24, 0, 1, 2, 3, 4, 5, 6, 7, 8, 9, 10, 11, 12, 13, 14, 15, 16, 17, 18, 19, 20, 21, 22, 23, 24], [24, 25])])
def impl_CountPairings.B17 : List Nat := [0, 0, 3, 7, 0, 31, 63, 0, 0, 256, 896, 1920, 0, 8064, 16256, 0, 0, 65536, 229376, 491520, 0, 2064384, 4161536, 8388480, 16777215, 33554431, 67108863]
theorem impl_CountPairings.tab17 : rtab .any (opsOf Try.f28 17) = impl_CountPairings.T17 := by kernel_rfl
theorem impl_CountPairings.bits17 : waitsOk impl_CountPairings.T17.2 impl_CountPairings.B17 = true := by kernel_rfl
set_option maxHeartbeats 8000000 in
set_option maxRecDepth 100000 in
theorem impl_CountPairings.calls (k : Nat) (A0 : Option Addr) (c0 : Nat) (l0 : List Int) (r1 : Int) (r2 : Bool) (w : World) (hr0 : Kd.C (Kd.int .i64) w A0 l0.length l0) (hc0 : l0.length ≤ c0) (h : impl_CountPairings.f k l0 = some (r1, r2)) :
    Calls Try.prog 28 #[.slice A0 l0.length c0] w fun e w' => e = .returned (.tuple #[.int .i64 r1, .bool r2]) ∧ Below w.heap.size w w' := by
  have HR0 := Aside0.mk hr0
  have HC0 := Aside0.mk hc0
  clear hr0 hc0
  have HB := Aside0.mk (Below.refl w.heap.size w)
  have H : ((impl_isWord.f l0).bind fun t996 => (if t996 = true then (impl_CountPairings.j0 k l0 (decide ((l0.length : Int) > 20))) else (impl_CountPairings.j0 k l0 true))) = some (r1, r2) := h
  clear h
  have HC2 := Aside0.mk H
  clear H
  go_enter Try.func28, Try.ntmps28
  go_upto_region 1 with (fail)
  go_cut [16] (fun v16 wc => ∃ (kq : Nat) (x16_1 : Bool), v16 = .bool x16_1 ∧ Aside0 (impl_CountPairings.j0 kq l0 x16_1 = some (r1, r2)) ∧ Aside0 (kq ≤ k) ∧ Aside0 (Below w.heap.size w wc))
  case first =>
    have H := HC2.out
    clear HC2
    replace H := Option.bind_eq_some_iff.mp H
    obtain ⟨t996, A30, H⟩ := H
    replace H : (if t996 = true then (impl_CountPairings.j0 k l0 (decide ((l0.length : Int) > 20))) else (impl_CountPairings.j0 k l0 true)) = some (r1, r2) := H
    have A3 := Aside0.mk A30
    clear A30
    by_cases c4 : t996 = true
    · subst c4
      have H1 : (impl_CountPairings.j0 k l0 (decide ((l0.length : Int) > 20))) = some (r1, r2) := by rw [if_pos rfl] at H; exact H
      clear H
      have H := H1
      clear H1
      have H' := Aside0.mk H
      clear H
      go_wp2_with (first | ((with_reducible refine gate_callee (f := 49) rfl ?_); refine goesL_ (some 10) rfl rfl Try.func49 (by kernel_rfl) rfl #[.slice A0 l0.length c0] rfl (by (try simp only [List.map_toArray, List.map_cons, List.map_nil]); first | done | rfl | (simp only [List.length_drop, List.length_take]; rfl)) ?_; (with_reducible refine (impl_isWord.calls _ _ l0 true _ ?side1 ?side2 A3.out).mono ?_); (case side1 => repeat (first | exact (Kd.C_below HR0.out HB.out) | (with_reducible refine Kd.C_alloc ?_ _) | (with_reducible refine Kd.C_drewN ?_ _) | (with_reducible refine Kd.C_drew ?_))); (case side2 => exact HC0.out); rintro e w' ⟨rfl, ⟨nd, rfl⟩⟩; refine ⟨_, rfl, ?_⟩))
      go_meet
      case rel => exact ⟨_, (decide ((l0.length : Int) > 20)), (by first | rfl | (simp; done) | (simp [*]; done) | (generalize ByteArray.toList _ = l_; cases l_ <;> rfl)), H', ⟨by first | omega | exact Nat.le_refl _⟩, ⟨by repeat (first | (with_reducible first | exact HB.out | apply below_alloc | apply pw_below_drewN | apply below_drew1) | exact HB.out)⟩⟩
    · replace c4 := Bool.eq_false_iff.mpr c4
      subst c4
      have H1 : (impl_CountPairings.j0 k l0 true) = some (r1, r2) := by rw [if_neg (show ¬ (false = true) by decide)] at H; exact H
      clear H
      have H := H1
      clear H1
      have H' := Aside0.mk H
      clear H
      go_wp2_with (first | ((with_reducible refine gate_callee (f := 49) rfl ?_); refine goesL_ (some 10) rfl rfl Try.func49 (by kernel_rfl) rfl #[.slice A0 l0.length c0] rfl (by (try simp only [List.map_toArray, List.map_cons, List.map_nil]); first | done | rfl | (simp only [List.length_drop, List.length_take]; rfl)) ?_; (with_reducible refine (impl_isWord.calls _ _ l0 false _ ?side1 ?side2 A3.out).mono ?_); (case side1 => repeat (first | exact (Kd.C_below HR0.out HB.out) | (with_reducible refine Kd.C_alloc ?_ _) | (with_reducible refine Kd.C_drewN ?_ _) | (with_reducible refine Kd.C_drew ?_))); (case side2 => exact HC0.out); rintro e w' ⟨rfl, ⟨nd, rfl⟩⟩; refine ⟨_, rfl, ?_⟩))
      go_meet
      case rel => exact ⟨_, (true), (by first | rfl | (simp; done) | (simp [*]; done) | (generalize ByteArray.toList _ = l_; cases l_ <;> rfl)), H', ⟨by first | omega | exact Nat.le_refl _⟩, ⟨by repeat (first | (with_reducible first | exact HB.out | apply below_alloc | apply pw_below_drewN | apply below_drew1) | exact HB.out)⟩⟩
  case rest =>
    clear HC2
    try clear c2
    try clear p2
    try clear c4
    obtain ⟨kq, x16_1, rfl, HA, HJ1, HB⟩ := hcut
    cases kq with
    | zero => exact absurd HA.out (by simp [impl_CountPairings.j0])
    | succ kj1 =>
      have H := HA.out
      clear HA
      simp only [impl_CountPairings.j0] at H
      by_cases c5 : x16_1 = true
      · subst c5
        have H1 : (some (0, false)) = some (r1, r2) := by rw [if_pos rfl] at H; exact H
        clear H
        have H := H1
        clear H1
        simp only [Option.some.injEq, Prod.mk.injEq] at H
        obtain ⟨rfl, rfl⟩ := H
        go_wp2
        go_ret2
        exact ⟨by first | rfl | (simp [errW_none, errW_some] <;> rfl) | (simp [*, errW_none, errW_some] <;> rfl), by repeat (first | (with_reducible first | exact HB.out | apply below_alloc | apply pw_below_drewN | apply below_drew1) | exact HB.out)⟩
      · replace c5 := Bool.eq_false_iff.mpr c5
        subst c5
        have H1 : (if 0 ≤ (wrap64 ((l0.length : Int) + 1)) then (if (wrap64 ((l0.length : Int) + 1) : Int).toNat ≤ 11728124029610 then (impl_CountPairings.l0 kj1 l0 (l0.length : Int) (List.replicate (wrap64 ((l0.length : Int) + 1) : Int).toNat []) (l0.length : Int)) else (none)) else (none)) = some (r1, r2) := by rw [if_neg (show ¬ (false = true) by decide)] at H; exact H
        clear H
        have H := H1
        clear H1
        obtain ⟨ji6, hji6⟩ : ∃ j_ : Int, (wrap64 ((l0.length : Int) + 1)) = j_ := ⟨_, rfl⟩
        replace H : (if 0 ≤ (ji6) then (if (ji6 : Int).toNat ≤ 11728124029610 then (impl_CountPairings.l0 kj1 l0 (l0.length : Int) (List.replicate (ji6 : Int).toNat []) (l0.length : Int)) else (none)) else (none)) = some (r1, r2) := by first | (rw [hji6] at H; exact H) | (simp only [hji6] at H ⊢; exact H)
        have hji6w : (IntKind.i64.wrap ((l0.length : Int) + 1)) = ji6 := (i64_w _).trans hji6
        by_cases c7 : 0 ≤ (ji6)
        · rw [if_pos c7] at H
          have c7b0 := eq_true c7
          have c7b1 : decide (0 ≤ (ji6)) = true := decide_eq_true c7
          clear c7
          by_cases c8 : (ji6 : Int).toNat ≤ 11728124029610
          · rw [if_pos c8] at H
            have c8b0 := eq_true c8
            have c8b1 : decide ((ji6 : Int).toNat ≤ 11728124029610) = true := decide_eq_true c8
            clear c8
            obtain ⟨y997, hy997⟩ : ∃ y_ : List (List Int), y_ = (List.replicate (ji6 : Int).toNat []) := ⟨_, rfl⟩
            replace H : (impl_CountPairings.l0 kj1 l0 (l0.length : Int) y997 (l0.length : Int)) = some (r1, r2) := by first | (rw [hy997]; with_reducible exact H) | (have H2_ := (Option.bind_some _ _).symm.trans H; rw [hy997]; with_reducible exact H2_) | (have H2_ := (Option.bind_some _ _).symm.trans H; with_reducible exact H2_) | with_reducible exact H | (rw [hy997]; exact H) | exact H
            have Ny997 := Aside0.mk hy997
            clear hy997
            have H' := Aside0.mk H
            clear H
            go_wp2_with (first | ((with_reducible refine gate_dst (N := 21) rfl ?_); (try (refine gate_guard (by rfl) ?_; dsimp only)); refine Kd.S_make (Kd.slice 3 (Kd.int .i64)) _ 22 rfl (N := 21) rfl 44 _ _ rfl ji6 rfl rfl Try.underlying44 (.slice none 0 0) 24 info22 rfl (by decide) (by omega) [] (ok := fun _ => True) (okp := fun _ => True) ⟨_, rfl, Kd.R_nil _ _ _ _ _⟩ (fun _ hk => hk) trivial (of_decide_eq_true (by first | (with_reducible assumption) | assumption)) (Nat.le_trans (Nat.mul_le_mul_right _ (of_decide_eq_true (by first | (with_reducible assumption) | assumption) : ji6.toNat ≤ 11728124029610)) (by omega)) (Below.refl _ _) (Nat.le_refl _) ?_; intro v998 w9 ho10 hb hg_ hnew_; clear hg_ hnew_; (first | rw [← Ny997.out] at ho10 | (simp only [Int.reduceToNat] at ho10; rw [← Ny997.out] at ho10)); have n0_ := Aside0.mk (Kd.S_lower ho10 (below_size (by repeat (first | (with_reducible first | exact HB.out | apply below_alloc | apply pw_below_drewN | apply below_drew1) | exact HB.out)))); have n1_ := Aside0.mk (below_step (by repeat (first | (with_reducible first | exact HB.out | apply below_alloc | apply pw_below_drewN | apply below_drew1) | exact HB.out)) hb); clear HB; have HO999 := n0_; have HB := n1_; clear n0_ n1_; clear hb ho10))
            go_loopg [6] kj1 (fun kq v6 w' => ∃ (x5_2 : List (List Int)) (x6_2 : Int), v6 = .int .i64 x6_2 ∧ Aside0 (impl_CountPairings.l0 kq l0 (l0.length : Int) x5_2 x6_2 = some (r1, r2)) ∧ Aside0 (kq ≤ kj1) ∧ Aside0 (Kd.S (Kd.slice 3 (Kd.int .i64)) 22 w' w.heap.size (fun _ => True) v998 x5_2) ∧ Aside0 (Below w.heap.size w w'))
            case atStart => exact ⟨(y997), ((l0.length : Int)), (by first | rfl | (simp; done) | (simp [*]; done) | (generalize ByteArray.toList _ = l_; cases l_ <;> rfl)), H', ⟨Nat.le_refl _⟩, ⟨by (with_reducible repeat (first | apply Kd.S_alloc | apply Kd.S_drewN | apply Kd.S_drew)); exact HO999.out⟩, ⟨by repeat (first | (with_reducible first | exact HB.out | apply below_alloc | apply pw_below_drewN | apply below_drew1) | exact HB.out)⟩⟩
            case round =>
              clear H'
              try clear c2
              try clear p2
              try clear c4
              try clear c5
              try clear p6
              try clear c7
              try clear c7b0
              try clear c7b1
              try clear c8
              try clear c8b0
              try clear c8b1
              try clear p2
              obtain ⟨x5_2, x6_2, rfl, HA, HK2, HO_5, HB⟩ := hrel
              cases gk with
              | zero => exact absurd HA.out (by simp [impl_CountPairings.l0])
              | succ k2 =>
                have H := HA.out
                clear HA
                simp only [impl_CountPairings.l0] at H
                by_cases c11 : x6_2 ≥ 0
                · rw [if_pos c11] at H
                  have c11b0 : decide (0 ≤ x6_2) = true := decide_eq_true c11
                  clear c11
                  obtain ⟨ji12, hji12⟩ : ∃ j_ : Int, (wrap64 ((l0.length : Int) + 1)) = j_ := ⟨_, rfl⟩
                  (try clear hji6_)
                  replace H : (if 0 ≤ (ji12) then (if (ji12 : Int).toNat ≤ 35184372088832 then (if 0 ≤ x6_2 then (if x6_2 < (x5_2.length : Int) then ((some (x5_2.set (x6_2 : Int).toNat (List.replicate (ji12 : Int).toNat 0) : List (List Int))).bind fun y1005 => (if x6_2 < ((rd_L1 y1005 x6_2).length : Int) then (impl_CountPairings.l1 k2 l0 (l0.length : Int) (y1005.set (x6_2 : Int).toNat ((rd_L1 y1005 x6_2).set (x6_2 : Int).toNat 1)) x6_2 (wrap64 (x6_2 + 2))) else (none))) else (none)) else (none)) else (none)) else (none)) = some (r1, r2) := by first | (rw [hji12] at H; exact H) | (simp only [hji12] at H ⊢; exact H)
                  have hji12w : (IntKind.i64.wrap ((l0.length : Int) + 1)) = ji12 := (i64_w _).trans hji12
                  obtain rfl : ji12 = ji6 := hji12.symm.trans hji6
                  by_cases c13 : 0 ≤ (ji12)
                  · rw [if_pos c13] at H
                    have c13b0 := eq_true c13
                    have c13b1 : decide (0 ≤ (ji12)) = true := decide_eq_true c13
                    clear c13
                    by_cases c14 : (ji12 : Int).toNat ≤ 35184372088832
                    · rw [if_pos c14] at H
                      have c14b0 := eq_true c14
                      have c14b1 : decide ((ji12 : Int).toNat ≤ 35184372088832) = true := decide_eq_true c14
                      clear c14
                      obtain ⟨y1002, hy1002⟩ : ∃ y_ : List Int, y_ = (List.replicate (ji12 : Int).toNat 0) := ⟨_, rfl⟩
                      replace H : (if 0 ≤ x6_2 then (if x6_2 < (x5_2.length : Int) then ((some (x5_2.set (x6_2 : Int).toNat y1002 : List (List Int))).bind fun y1005 => (if x6_2 < ((rd_L1 y1005 x6_2).length : Int) then (impl_CountPairings.l1 k2 l0 (l0.length : Int) (y1005.set (x6_2 : Int).toNat ((rd_L1 y1005 x6_2).set (x6_2 : Int).toNat 1)) x6_2 (wrap64 (x6_2 + 2))) else (none))) else (none)) else (none)) = some (r1, r2) := by first | (rw [hy1002]; with_reducible exact H) | (have H2_ := (Option.bind_some _ _).symm.trans H; rw [hy1002]; with_reducible exact H2_) | (have H2_ := (Option.bind_some _ _).symm.trans H; with_reducible exact H2_) | with_reducible exact H | (rw [hy1002]; exact H) | exact H
                      have Ny1002 := Aside0.mk hy1002
                      clear hy1002
                      by_cases c15 : 0 ≤ x6_2
                      · rw [if_pos c15] at H
                        have c15b0 : decide (0 ≤ x6_2) = true := decide_eq_true c15
                        clear c15
                        by_cases c16 : x6_2 < (x5_2.length : Int)
                        · rw [if_pos c16] at H
                          have c16b0 : decide (x6_2 < (x5_2.length : Int)) = true := decide_eq_true c16
                          clear c16
                          obtain ⟨y1005, hy1005⟩ : ∃ y_ : List (List Int), y_ = (x5_2.set (x6_2 : Int).toNat y1002) := ⟨_, rfl⟩
                          replace H : (if x6_2 < ((rd_L1 y1005 x6_2).length : Int) then (impl_CountPairings.l1 k2 l0 (l0.length : Int) (y1005.set (x6_2 : Int).toNat ((rd_L1 y1005 x6_2).set (x6_2 : Int).toNat 1)) x6_2 (wrap64 (x6_2 + 2))) else (none)) = some (r1, r2) := by first | (rw [hy1005]; with_reducible exact H) | (have H2_ := (Option.bind_some _ _).symm.trans H; rw [hy1005]; with_reducible exact H2_) | (have H2_ := (Option.bind_some _ _).symm.trans H; with_reducible exact H2_) | with_reducible exact H | (rw [hy1005]; exact H) | exact H
                          have Ny1005 := Aside0.mk hy1005
                          clear hy1005
                          by_cases c18 : x6_2 < ((rd_L1 y1005 x6_2).length : Int)
                          · rw [if_pos c18] at H
                            have c18b0 : decide (x6_2 < ((rd_L1 y1005 x6_2).length : Int)) = true := decide_eq_true c18
                            clear c18
                            obtain ⟨y1007, hy1007⟩ : ∃ y_ : List Int, y_ = ((rd_L1 y1005 x6_2).set (x6_2 : Int).toNat 1) := ⟨_, rfl⟩
                            replace H : (impl_CountPairings.l1 k2 l0 (l0.length : Int) (y1005.set (x6_2 : Int).toNat y1007) x6_2 (wrap64 (x6_2 + 2))) = some (r1, r2) := by first | (rw [hy1007]; with_reducible exact H) | (have H2_ := (Option.bind_some _ _).symm.trans H; rw [hy1007]; with_reducible exact H2_) | (have H2_ := (Option.bind_some _ _).symm.trans H; with_reducible exact H2_) | with_reducible exact H | (rw [hy1007]; exact H) | exact H
                            have Ny1007 := Aside0.mk hy1007
                            clear hy1007
                            obtain ⟨y1009, hy1009⟩ : ∃ y_ : List (List Int), y_ = (y1005.set (x6_2 : Int).toNat y1007) := ⟨_, rfl⟩
                            replace H : (impl_CountPairings.l1 k2 l0 (l0.length : Int) y1009 x6_2 (wrap64 (x6_2 + 2))) = some (r1, r2) := by first | (rw [hy1009]; with_reducible exact H) | (have H2_ := (Option.bind_some _ _).symm.trans H; rw [hy1009]; with_reducible exact H2_) | (have H2_ := (Option.bind_some _ _).symm.trans H; with_reducible exact H2_) | with_reducible exact H | (rw [hy1009]; exact H) | exact H
                            have Ny1009 := Aside0.mk hy1009
                            clear hy1009
                            have H' := Aside0.mk H
                            clear H
                            go_wp2_with (first | ((with_reducible refine gate_dst (N := 31) rfl ?_); (try (refine gate_guard (by rfl) ?_; dsimp only)); refine Kd.R_make (Kd.int .i64) _ 3 rfl (N := 31) rfl 22 _ _ rfl ji12 rfl rfl Try.underlying22 (.int .i64 0) 8 info3 rfl (by decide) (by omega) 0 (ok := fun _ => True) (okp := fun _ => True) rfl (fun _ hk => hk) trivial (of_decide_eq_true (by first | (with_reducible assumption) | assumption)) (Nat.le_trans (Nat.mul_le_mul_right _ (of_decide_eq_true (by first | (with_reducible assumption) | assumption) : ji12.toNat ≤ 35184372088832)) (by omega)) (Below.refl _ _) (Nat.le_refl _) ?_; intro v1003 w20 ho21 hb hg_ hnew_; clear hg_ hnew_; (first | rw [← Ny1002.out] at ho21 | (simp only [Int.reduceToNat] at ho21; rw [← Ny1002.out] at ho21)); have n0_ := Aside0.mk (Kd.S_elder' (by (with_reducible repeat (first | apply Kd.S_alloc | apply Kd.S_drewN | apply Kd.S_drew)); exact HO_5.out) (Kd.R_base ho21) hb); have n1_ := Aside0.mk (Kd.R_lower ho21 (below_size (by repeat (first | (with_reducible first | exact HB.out | apply below_alloc | apply pw_below_drewN | apply below_drew1) | exact HB.out)))); have n2_ := Aside0.mk (below_step (by repeat (first | (with_reducible first | exact HB.out | apply below_alloc | apply pw_below_drewN | apply below_drew1) | exact HB.out)) hb); clear HO_5; clear HB; have HO_5 := n0_; have HO1004 := n1_; have HB := n2_; clear n0_ n1_ n2_; clear hb ho21; have p17 : 0 ≤ (x6_2 : Int) := of_decide_eq_true (by first | (with_reducible assumption) | assumption); have q17 : (x6_2 : Int) < ((x5_2.length : Int) : Int) := of_decide_eq_true (by first | (with_reducible assumption) | assumption); obtain ⟨go17, co17, eo17, gb17, gl17, cl17, HG17⟩ := Kd.S_form HO_5.out (by omega); (first | cases eo17 | (injection eo17 with ea_ en_ ec_; (first | subst ea_ | (injection ea_ with ea_; subst ea_)); subst ec_; clear en_)); have GB17 := Aside0.mk gb17; have GG17 := Aside0.mk HG17; clear gb17 gl17 HG17; obtain ⟨_, ce17, hcl17, hM17, hcc17, hfr17, _, _⟩ := Kd.S_elem HO_5.out [] (x6_2 : Int) p17 q17; obtain ⟨ve17_0, rfl, ge17_0⟩ := hM17; have hx17_0 := hcc17 0 _ rfl; have hf17_0 := hfr17 0; (try simp only [show ((Kd.slice 3 (Kd.int .i64))).sz = 1 from rfl, Nat.mul_one, Nat.add_zero] at hx17_0); (try simp only [show ((Kd.slice 3 (Kd.int .i64))).sz = 1 from rfl, Nat.mul_one, Nat.add_zero] at hf17_0); clear hcl17 hcc17 hfr17; (try clear hM17); replace p17 := eq_true p17; replace q17 := eq_true q17; have n_ := Aside0.mk (Kd.S_mono (ok' := (fun k_ => some k_ ≠ (v1003 : Value).ownBlock)) HO_5.out (fun k_ hk => hk.2)); clear HO_5; have HO_5 := n_; clear n_; have HX22 := Aside0.mk (show Kd.S (Kd.slice 3 (Kd.int .i64)) 22 w20 w.heap.size (fun k_ => ((fun _ => True)) k_ ∧ ¬ ((fun k_ => some k_ = (v1003 : Value).ownBlock)) k_) (.slice (some ⟨go17, 0, none⟩) x5_2.length co17) x5_2 from (by (with_reducible repeat (first | apply Kd.S_alloc | apply Kd.S_drewN | apply Kd.S_drew)); exact Kd.S_mono HO_5.out (fun k_ hk => ⟨trivial, fun e_ => hk e_⟩))); obtain ⟨oki22, ce22, hcl22, hM22, hcc22, hfr22, hoki22, hH22⟩ := Kd.S_elem HX22.out [] (x6_2 : Int) (of_decide_eq_true (by first | (with_reducible assumption) | assumption)) (by have h_ : (x6_2 : Int) < ((x5_2.length : Int) : Int) := of_decide_eq_true (by first | (with_reducible assumption) | assumption); first | exact h_ | (have e_ := (Kd.S_reads' HO_5.out).1; omega) | simpa using h_); obtain ⟨ve22_0, rfl, ge22_0⟩ := hM22; have HP22 := Kd.S_seg hH22 (of_decide_eq_true (by first | (with_reducible assumption) | assumption)) (by have h_ : (x6_2 : Int) < ((x5_2.length : Int) : Int) := of_decide_eq_true (by first | (with_reducible assumption) | assumption); first | exact h_ | (have e_ := (Kd.S_reads' HO_5.out).1; omega) | simpa using h_) (seg := [v1003]) (j := 0) (show 1 ≤ 1 from by decide) (x' := y1002) (Kd.M_row (Kd.R_mono (Kd.R_tight rfl (Kd.R_mono (ok' := fun k_ => ((fun _ => True)) k_ ∧ k_ ≠ go17) (Kd.R_apart' (HO1004.out) (Kd.S_typed HO_5.out) (by decide)) (fun k_ hk => ⟨trivial, fun e_ => (hk.2) (by rw [e_]; rfl)⟩))) (fun _ h_ => Or.inr (h_)))) (fun _ hk => hk) (fun k_ hk_ => ((Kd.R_mono (ok' := fun k_ => ((fun _ => True)) k_ ∧ k_ ≠ go17) (Kd.R_apart' (HO1004.out) (Kd.S_typed HO_5.out) (by decide)) (fun k_ hk => ⟨trivial, fun e_ => (hk.2) (by rw [e_]; rfl)⟩))).1 k_ hk_.symm); have hx22_0 := hcc22 0 _ rfl; (try simp only [show ((Kd.slice 3 (Kd.int .i64))).sz = 1 from rfl, Nat.mul_one, Nat.add_zero] at hx22_0); have hf22_0 := hfr22 0; (try simp only [show ((Kd.slice 3 (Kd.int .i64))).sz = 1 from rfl, Nat.mul_one, Nat.add_zero] at hf22_0); clear hcl22 hcc22 hfr22 hoki22 hH22; (try clear hM22); (try simp only [show ((Kd.slice 3 (Kd.int .i64))).sz = 1 from rfl, Nat.mul_one, Nat.add_zero] at HP22)) | ((with_reducible refine gate_store (t := 22) (p := 32) rfl ?_); refine store_event (t := 22) (p := 32) (v := ?vo_w23) (w1 := (w20.setCell ⟨go17, (x6_2 : Int).toNat, none⟩ (v1003))) ?hg ?ho ?hn ?hr ?_; (case ho => rfl); (case hg => rfl); (case hn => rfl); (case hr => first | (obtain ⟨A_, c_, e_⟩ := Kd.R_slice HO1004.out; simp only [e_]; (first | (go_simp; done) | (go_simp; rfl))) | (go_simp; done) | (go_simp; rfl)); intro w23 hw; have hg : w20.grownBy w23 (some go17) := (by rw [hw]; exact HP22.2); have hp_ : Kd.S (Kd.slice 3 (Kd.int .i64)) 22 w23 w.heap.size (fun _ => True) (.slice (some ⟨go17, 0, none⟩) x5_2.length co17) y1005 := (by rw [hw, Ny1005.out]; exact HP22.1); clear HP22; have n0_ := Aside0.mk (hp_); have n1_ := Aside0.mk ((by rw [hw]; exact below_set (HB.out) GB17.out : Below w.heap.size w w23)); clear HO_5; clear HB; clear HO1004; have HO_5 := n0_; have HB := n1_; clear n0_ n1_; clear hg hw hp_; have p1006 : 0 ≤ (x6_2 : Int) := of_decide_eq_true (by first | (with_reducible assumption) | assumption); have q1006 : x6_2 < (y1005.length : Int) := (by have h_ : (x6_2 : Int) < ((x5_2.length : Int) : Int) := of_decide_eq_true (by first | (with_reducible assumption) | assumption); first | (have e_ := (Kd.S_reads' HO_5.out).1; omega) | simpa only [Ny1005.out, List.length_set] using h_); have ql1006 : ((x6_2 : Int) < ((x5_2.length : Int) : Int)) = True := eq_true (of_decide_eq_true (by first | (with_reducible assumption) | assumption)); obtain ⟨ad1006, A1006_0, c1006_0, e1006, hx1006_0, hl1006_0, hi1006_0⟩ := at_L1 (Kd.S_reads' HO_5.out).2.2 x6_2 p1006 q1006; obtain rfl : (⟨go17, 0, none⟩ : Addr) = ad1006 := (by injection e1006); obtain ⟨ce1006, hce1006, hMe1006, hcc1006⟩ := Kd.S_get HO_5.out [] x6_2 p1006 (by first | exact q1006 | exact of_decide_eq_true (by first | (with_reducible assumption) | assumption) | (have e_ := (Kd.S_reads' HO_5.out).1; omega)); obtain ⟨ve1006_0, rfl, ge1006_0⟩ := hMe1006; have hv1006_0 := hcc1006 0 _ rfl; rw [Nat.add_zero, show ((Kd.slice 3 (Kd.int .i64))).sz = 1 from rfl, Nat.mul_one] at hv1006_0; replace hv1006_0 := Option.some.inj (hv1006_0.symm.trans hx1006_0); rw [hv1006_0] at ge1006_0; have HL1006_0 := Aside0.mk (show Kd.R (Kd.int .i64) 3 _ _ _ _ (rd_L1 y1005 x6_2) from ge1006_0); clear hv1006_0 ge1006_0; have HX1006_0 := Aside0.mk hx1006_0; clear hcc1006 hce1006; (first | simp only [add_plain] at hx1006_0 | simp only [add_at] at hx1006_0 | simp only [Addr.add, Nat.zero_add] at hx1006_0 | skip); have HR1006_0 := Aside0.mk hi1006_0; have HC1006_0 := Aside0.mk hl1006_0; clear hi1006_0 hl1006_0; replace p1006 := eq_true p1006; replace q1006 := eq_true q1006; have p19 : 0 ≤ (x6_2 : Int) := of_decide_eq_true (by first | (with_reducible assumption) | assumption); have q19 : (x6_2 : Int) < (((rd_L1 y1005 x6_2).length : Int) : Int) := of_decide_eq_true (by first | (with_reducible assumption) | assumption); obtain ⟨go19, co19, eo19, gb19, gl19, cl19, HG19⟩ := Kd.R_form HL1006_0.out (by omega); (first | cases eo19 | (injection eo19 with ea_ en_ ec_; (first | subst ea_ | (injection ea_ with ea_; subst ea_)); subst ec_; clear en_)); have GB19 := Aside0.mk gb19; have GG19 := Aside0.mk HG19; clear gb19 gl19 HG19; obtain ⟨hx19_0, hf19_0⟩ := Kd.R_celln 0 HL1006_0.out (x6_2 : Int) p19 q19; replace p19 := eq_true p19; replace q19 := eq_true q19; have hq24 : (x6_2 : Int) < (y1005.length : Int) := (by have h_ : (x6_2 : Int) < ((x5_2.length : Int) : Int) := of_decide_eq_true (by first | (with_reducible assumption) | assumption); first | exact h_ | (have e_ := (Kd.S_reads' HO_5.out).1; omega) | simpa only [Ny1005.out, List.length_set] using h_); obtain ⟨oki24, ce24, hcl24, hM24, hcc24, hok24, hbk24⟩ := Kd.S_borrow HO_5.out [] (x6_2 : Int) (of_decide_eq_true (by first | (with_reducible assumption) | assumption)) (by first | exact hq24 | exact of_decide_eq_true (by first | (with_reducible assumption) | assumption)); obtain ⟨ve24_0, rfl, ge24_0⟩ := hM24; have hv24 := hcc24 0 _ rfl; rw [Nat.add_zero, show ((Kd.slice 3 (Kd.int .i64))).sz = 1 from rfl, Nat.mul_one] at hv24; replace hv24 := Option.some.inj (hv24.symm.trans HX1006_0.out); subst hv24; clear hcc24 hcl24; replace ge24_0 := (show Kd.R (Kd.int .i64) 3 _ _ _ _ (rd_L1 y1005 x6_2) from ge24_0); have HP24 := Kd.R_putg ge24_0 (x6_2 : Int) 1) | ((with_reducible refine gate_store (t := 3) (p := 38) rfl ?_); refine store_event (t := 3) (p := 38) (v := ?vo_w25) (w1 := (w23.setCell ⟨go19, (x6_2 : Int).toNat, none⟩ (.int .i64 1))) ?hg ?ho ?hn ?hr ?_; (case ho => rfl); (case hg => rfl); (case hn => rfl); (case hr => first | (go_simp; done) | (go_simp; rfl)); intro w25 hw; have hg : w23.grownBy w25 (some go19) := (by rw [hw]; exact HP24.2); have hz_ : Kd.R (Kd.int .i64) 3 w25 w.heap.size oki24 (.slice (some ⟨go19, 0, none⟩) (rd_L1 y1005 x6_2).length c1006_0) y1007 := (by rw [hw, Ny1007.out]; exact HP24.1); have hp_ : Kd.S (Kd.slice 3 (Kd.int .i64)) 22 w25 w.heap.size (fun _ => True) (.slice (some ⟨go17, 0, none⟩) x5_2.length co17) y1009 := (by rw [Ny1009.out]; exact hbk24 hg (fun k_ e_ => by injection e_ with e_; subst e_; exact ge24_0.1 _ rfl) (Kd.M_row hz_)); have hm_ := Kd.R_mono hz_ hok24; clear HP24 hbk24; have n0_ := Aside0.mk (hp_); have n1_ := Aside0.mk ((by rw [hw]; exact below_set (HB.out) GB19.out : Below w.heap.size w w25)); have n2_ := Aside0.mk (hm_); have n3_ := Aside0.mk ((Kd.R_reads' hm_).2.1); clear HO_5; clear HB; clear HL1006_0; have HO_5 := n0_; have HB := n1_; have HL1021 := n2_; have HC1008 := n3_; clear n0_ n1_ n2_ n3_; clear hg hw hp_ hz_ hm_ hok24))
                            go_loopg [7] k2 (fun kq v7 w' => ∃ (x5_3 : List (List Int)) (x7_3 : Int), v7 = .int .i64 x7_3 ∧ Aside0 (impl_CountPairings.l1 kq l0 (l0.length : Int) x5_3 x6_2 x7_3 = some (r1, r2)) ∧ Aside0 (kq ≤ k2) ∧ Aside0 (Kd.S (Kd.slice 3 (Kd.int .i64)) 22 w' w.heap.size (fun _ => True) (.slice (some ⟨go17, 0, none⟩) x5_2.length co17) x5_3) ∧ Aside0 (Below w.heap.size w w'))
                            case atStart => exact ⟨(y1009), (wrap64 (x6_2 + 2)), (by first | rfl | (simp; done) | (simp [*]; done) | (generalize ByteArray.toList _ = l_; cases l_ <;> rfl)), H', ⟨Nat.le_refl _⟩, ⟨by (with_reducible repeat (first | apply Kd.S_alloc | apply Kd.S_drewN | apply Kd.S_drew)); exact HO_5.out⟩, ⟨by repeat (first | (with_reducible first | exact HB.out | apply below_alloc | apply pw_below_drewN | apply below_drew1) | exact HB.out)⟩⟩
                            case round =>
                              clear H'
                              try clear c1
                              try clear p1
                              try clear q1
                              try clear hx1
                              try clear hf1
                              try clear c2
                              try clear p2
                              try clear q2
                              try clear hx2
                              try clear hf2
                              try clear c4
                              try clear c5
                              try clear p6
                              try clear c7
                              try clear c7b0
                              try clear c7b1
                              try clear c8
                              try clear c8b0
                              try clear c8b1
                              try clear c10
                              try clear p10
                              try clear q10
                              try clear hx10
                              try clear c11
                              try clear c11b0
                              try clear c13
                              try clear c13b0
                              try clear c13b1
                              try clear c14
                              try clear c14b0
                              try clear c14b1
                              try clear c15
                              try clear c15b0
                              try clear c16
                              try clear c16b0
                              try clear c17
                              try clear p17
                              try clear q17
                              try clear hx17
                              try clear hf17
                              try clear c18
                              try clear c18b0
                              try clear p19
                              try clear q19
                              try clear hx19
                              try clear hf19
                              try clear c22
                              try clear hx22
                              try clear hf22
                              try clear c24
                              try clear q24
                              try clear hx1006_0
                              try clear hx17_0
                              try clear hx19_0
                              try clear hx22_0
                              try clear p1006
                              try clear p17
                              try clear p19
                              try clear p2
                              try clear p6
                              try clear q1006
                              try clear q17
                              try clear q19
                              obtain ⟨x5_3, x7_3, rfl, HA, HK3, HO_5, HB⟩ := hrel
                              have hl5_3 := (Kd.S_reads' HO_5.out).1
                              rw [hl5_3] at HO_5
                              (try simp only [hl5_3])
                              cases gk with
                              | zero => exact absurd HA.out (by simp [impl_CountPairings.l1])
                              | succ k3 =>
                                have H := HA.out
                                clear HA
                                simp only [impl_CountPairings.l1] at H
                                by_cases c26 : x7_3 ≤ (l0.length : Int)
                                · rw [if_pos c26] at H
                                  have c26b0 : decide (x7_3 ≤ (l0.length : Int)) = true := decide_eq_true c26
                                  clear c26
                                  have H' := Aside0.mk H
                                  clear H
                                  go_wp2
                                  go_loopg [8] k3 (fun kq v8 w' => ∃ (x5_4 : List (List Int)) (x8_4 : Int), v8 = .int .i64 x8_4 ∧ Aside0 (impl_CountPairings.l2 kq l0 (l0.length : Int) x5_4 x6_2 x7_3 x8_4 = some (r1, r2)) ∧ Aside0 (kq ≤ k3) ∧ Aside0 (Kd.S (Kd.slice 3 (Kd.int .i64)) 22 w' w.heap.size (fun _ => True) (.slice (some ⟨go17, 0, none⟩) x5_3.length co17) x5_4) ∧ Aside0 (Below w.heap.size w w'))
                                  case atStart => exact ⟨(x5_3), (wrap64 (x6_2 + 1)), (by first | rfl | (simp; done) | (simp [*]; done) | (generalize ByteArray.toList _ = l_; cases l_ <;> rfl)), H', ⟨Nat.le_refl _⟩, ⟨by (try simp only [hl5_3]); (with_reducible repeat (first | apply Kd.S_alloc | apply Kd.S_drewN | apply Kd.S_drew)); exact HO_5.out⟩, ⟨by repeat (first | (with_reducible first | exact HB.out | apply below_alloc | apply pw_below_drewN | apply below_drew1) | exact HB.out)⟩⟩
                                  case round =>
                                    clear H'
                                    try clear c1
                                    try clear p1
                                    try clear q1
                                    try clear hx1
                                    try clear hf1
                                    try clear c2
                                    try clear p2
                                    try clear q2
                                    try clear hx2
                                    try clear hf2
                                    try clear c4
                                    try clear c5
                                    try clear p6
                                    try clear c7
                                    try clear c7b0
                                    try clear c7b1
                                    try clear c8
                                    try clear c8b0
                                    try clear c8b1
                                    try clear c10
                                    try clear p10
                                    try clear q10
                                    try clear hx10
                                    try clear c11
                                    try clear c11b0
                                    try clear c13
                                    try clear c13b0
                                    try clear c13b1
                                    try clear c14
                                    try clear c14b0
                                    try clear c14b1
                                    try clear c15
                                    try clear c15b0
                                    try clear c16
                                    try clear c16b0
                                    try clear c17
                                    try clear p17
                                    try clear q17
                                    try clear hx17
                                    try clear hf17
                                    try clear c18
                                    try clear c18b0
                                    try clear p19
                                    try clear q19
                                    try clear hx19
                                    try clear hf19
                                    try clear c22
                                    try clear hx22
                                    try clear hf22
                                    try clear c24
                                    try clear q24
                                    try clear c26
                                    try clear c26b0
                                    try clear hx1006_0
                                    try clear hx17_0
                                    try clear hx19_0
                                    try clear hx22_0
                                    try clear p1
                                    try clear p10
                                    try clear p1006
                                    try clear p17
                                    try clear p19
                                    try clear p2
                                    try clear p6
                                    try clear q1
                                    try clear q10
                                    try clear q1006
                                    try clear q17
                                    try clear q19
                                    try clear q2
                                    try clear q24
                                    obtain ⟨x5_4, x8_4, rfl, HA, HK4, HO_5, HB⟩ := hrel
                                    have hl5_4 := (Kd.S_reads' HO_5.out).1
                                    rw [hl5_4] at HO_5
                                    (try simp only [hl5_4])
                                    cases gk with
                                    | zero => exact absurd HA.out (by simp [impl_CountPairings.l2])
                                    | succ k4 =>
                                      have H := HA.out
                                      clear HA
                                      simp only [impl_CountPairings.l2] at H
                                      by_cases c27 : x8_4 < x7_3
                                      · rw [if_pos c27] at H
                                        have c27b0 : decide (x8_4 < x7_3) = true := decide_eq_true c27
                                        clear c27
                                        by_cases c28 : 0 ≤ x8_4
                                        · rw [if_pos c28] at H
                                          have c28b0 : decide (0 ≤ x8_4) = true := decide_eq_true c28
                                          clear c28
                                          by_cases c29 : x8_4 < (l0.length : Int)
                                          · rw [if_pos c29] at H
                                            have c29b0 : decide (x8_4 < (l0.length : Int)) = true := decide_eq_true c29
                                            clear c29
                                            by_cases c30 : 0 ≤ x6_2
                                            · rw [if_pos c30] at H
                                              have c30b0 : decide (0 ≤ x6_2) = true := decide_eq_true c30
                                              clear c30
                                              by_cases c31 : x6_2 < (l0.length : Int)
                                              · rw [if_pos c31] at H
                                                have c31b0 : decide (x6_2 < (l0.length : Int)) = true := decide_eq_true c31
                                                clear c31
                                                by_cases c32 : (rd l0 x8_4) = (wrap64 (-(rd l0 x6_2)))
                                                · rw [if_pos c32] at H
                                                  have c32b0 : ((rd l0 x8_4) == (wrap64 (-(rd l0 x6_2)))) = true := beq_iff_eq.mpr c32
                                                  have c32b1 : ((rd l0 x8_4) != (wrap64 (-(rd l0 x6_2)))) = false := bne_eq_false_iff_eq.mpr c32
                                                  clear c32
                                                  by_cases c33 : x6_2 < (x5_4.length : Int)
                                                  · rw [if_pos c33] at H
                                                    have c33b0 : decide (x6_2 < (x5_4.length : Int)) = true := decide_eq_true c33
                                                    clear c33
                                                    by_cases c34 : 0 ≤ x7_3
                                                    · rw [if_pos c34] at H
                                                      have c34b0 : decide (0 ≤ x7_3) = true := decide_eq_true c34
                                                      clear c34
                                                      by_cases c35 : x7_3 < ((rd_L1 x5_4 x6_2).length : Int)
                                                      · rw [if_pos c35] at H
                                                        have c35b0 : decide (x7_3 < ((rd_L1 x5_4 x6_2).length : Int)) = true := decide_eq_true c35
                                                        clear c35
                                                        obtain ⟨ji36, hji36⟩ : ∃ j_ : Int, (wrap64 (x6_2 + 1)) = j_ := ⟨_, rfl⟩
                                                        replace H : (if 0 ≤ (ji36) then (if (ji36) < (x5_4.length : Int) then (if x8_4 < ((rd_L1 x5_4 (ji36)).length : Int) then (if 0 ≤ (wrap64 (x8_4 + 1)) then (if (wrap64 (x8_4 + 1)) < (x5_4.length : Int) then (if x7_3 < ((rd_L1 x5_4 (wrap64 (x8_4 + 1))).length : Int) then (impl_CountPairings.l2 k4 l0 (l0.length : Int) (x5_4.set (x6_2 : Int).toNat ((rd_L1 x5_4 x6_2).set (x7_3 : Int).toNat (wrap64 ((rd (rd_L1 x5_4 x6_2) x7_3) + (wrap64 ((rd (rd_L1 x5_4 (ji36)) x8_4) * (rd (rd_L1 x5_4 (wrap64 (x8_4 + 1))) x7_3))))))) x6_2 x7_3 (wrap64 (x8_4 + 2))) else (none)) else (none)) else (none)) else (none)) else (none)) else (none)) = some (r1, r2) := by first | (rw [hji36] at H; exact H) | (simp only [hji36] at H ⊢; exact H)
                                                        have hji36w : (IntKind.i64.wrap (x6_2 + 1)) = ji36 := (i64_w _).trans hji36
                                                        by_cases c37 : 0 ≤ (ji36)
                                                        · rw [if_pos c37] at H
                                                          have c37b0 : decide (0 ≤ (ji36)) = true := decide_eq_true c37
                                                          clear c37
                                                          by_cases c38 : (ji36) < (x5_4.length : Int)
                                                          · rw [if_pos c38] at H
                                                            have c38b0 : decide ((ji36) < (x5_4.length : Int)) = true := decide_eq_true c38
                                                            clear c38
                                                            by_cases c39 : x8_4 < ((rd_L1 x5_4 (ji36)).length : Int)
                                                            · rw [if_pos c39] at H
                                                              have c39b0 : decide (x8_4 < ((rd_L1 x5_4 (ji36)).length : Int)) = true := decide_eq_true c39
                                                              clear c39
                                                              obtain ⟨ji40, hji40⟩ : ∃ j_ : Int, (wrap64 (x8_4 + 1)) = j_ := ⟨_, rfl⟩
                                                              replace H : (if 0 ≤ (ji40) then (if (ji40) < (x5_4.length : Int) then (if x7_3 < ((rd_L1 x5_4 (ji40)).length : Int) then (impl_CountPairings.l2 k4 l0 (l0.length : Int) (x5_4.set (x6_2 : Int).toNat ((rd_L1 x5_4 x6_2).set (x7_3 : Int).toNat (wrap64 ((rd (rd_L1 x5_4 x6_2) x7_3) + (wrap64 ((rd (rd_L1 x5_4 (ji36)) x8_4) * (rd (rd_L1 x5_4 (ji40)) x7_3))))))) x6_2 x7_3 (wrap64 (x8_4 + 2))) else (none)) else (none)) else (none)) = some (r1, r2) := by first | (rw [hji40] at H; exact H) | (simp only [hji40] at H ⊢; exact H)
                                                              have hji40w : (IntKind.i64.wrap (x8_4 + 1)) = ji40 := (i64_w _).trans hji40
                                                              by_cases c41 : 0 ≤ (ji40)
                                                              · rw [if_pos c41] at H
                                                                have c41b0 : decide (0 ≤ (ji40)) = true := decide_eq_true c41
                                                                clear c41
                                                                by_cases c42 : (ji40) < (x5_4.length : Int)
                                                                · rw [if_pos c42] at H
                                                                  have c42b0 : decide ((ji40) < (x5_4.length : Int)) = true := decide_eq_true c42
                                                                  clear c42
                                                                  by_cases c43 : x7_3 < ((rd_L1 x5_4 (ji40)).length : Int)
                                                                  · rw [if_pos c43] at H
                                                                    have c43b0 : decide (x7_3 < ((rd_L1 x5_4 (ji40)).length : Int)) = true := decide_eq_true c43
                                                                    clear c43
                                                                    obtain ⟨y1018, hy1018⟩ : ∃ y_ : List Int, y_ = ((rd_L1 x5_4 x6_2).set (x7_3 : Int).toNat (wrap64 ((rd (rd_L1 x5_4 x6_2) x7_3) + (wrap64 ((rd (rd_L1 x5_4 (ji36)) x8_4) * (rd (rd_L1 x5_4 (ji40)) x7_3)))))) := ⟨_, rfl⟩
                                                                    replace H : (impl_CountPairings.l2 k4 l0 (l0.length : Int) (x5_4.set (x6_2 : Int).toNat y1018) x6_2 x7_3 (wrap64 (x8_4 + 2))) = some (r1, r2) := by first | (rw [hy1018]; with_reducible exact H) | (have H2_ := (Option.bind_some _ _).symm.trans H; rw [hy1018]; with_reducible exact H2_) | (have H2_ := (Option.bind_some _ _).symm.trans H; with_reducible exact H2_) | with_reducible exact H | (rw [hy1018]; exact H) | exact H
                                                                    have Ny1018 := Aside0.mk hy1018
                                                                    clear hy1018
                                                                    obtain ⟨y1020, hy1020⟩ : ∃ y_ : List (List Int), y_ = (x5_4.set (x6_2 : Int).toNat y1018) := ⟨_, rfl⟩
                                                                    replace H : (impl_CountPairings.l2 k4 l0 (l0.length : Int) y1020 x6_2 x7_3 (wrap64 (x8_4 + 2))) = some (r1, r2) := by first | (rw [hy1020]; with_reducible exact H) | (have H2_ := (Option.bind_some _ _).symm.trans H; rw [hy1020]; with_reducible exact H2_) | (have H2_ := (Option.bind_some _ _).symm.trans H; with_reducible exact H2_) | with_reducible exact H | (rw [hy1020]; exact H) | exact H
                                                                    have Ny1020 := Aside0.mk hy1020
                                                                    clear hy1020
                                                                    have H' := Aside0.mk H
                                                                    clear H
                                                                    try go_wp2
                                                                    have n0_ := Aside0.mk (Kd.S_drew HO_5.out)
                                                                    have n1_ := Aside0.mk (below_drew1 HB.out)
                                                                    clear HO_5
                                                                    clear HB
                                                                    have HO_5 := n0_
                                                                    have HB := n1_
                                                                    clear n0_ n1_
                                                                    have p1010 : 0 ≤ (x8_4 : Int) := of_decide_eq_true (by first | (with_reducible assumption) | assumption)
                                                                    have q1010 : x8_4 < (l0.length : Int) := of_decide_eq_true (by first | (with_reducible assumption) | assumption)
                                                                    obtain ⟨ad1010, e1010, hx1010_0⟩ := Kd.at_int HR0.out x8_4 p1010 q1010
                                                                    have hw1010_0 := hx1010_0
                                                                    cases e1010
                                                                    replace hx1010_0 := (HB.out.cell (World.block_lt_of_cell? w _ hx1010_0)).trans hx1010_0
                                                                    replace p1010 := eq_true p1010
                                                                    replace q1010 := eq_true q1010
                                                                    have p1011 : 0 ≤ (x6_2 : Int) := of_decide_eq_true (by first | (with_reducible assumption) | assumption)
                                                                    have q1011 : x6_2 < (l0.length : Int) := of_decide_eq_true (by first | (with_reducible assumption) | assumption)
                                                                    obtain ⟨ad1011, e1011, hx1011_0⟩ := Kd.at_int HR0.out x6_2 p1011 q1011
                                                                    have hw1011_0 := hx1011_0
                                                                    obtain rfl : ad1010 = ad1011 := (by injection e1011)
                                                                    replace hx1011_0 := (HB.out.cell (World.block_lt_of_cell? w _ hx1011_0)).trans hx1011_0
                                                                    replace p1011 := eq_true p1011
                                                                    replace q1011 := eq_true q1011
                                                                    refine start_ (n := 10) (S := fun w' => w'.cell? (ad1010.add (x8_4).toNat) = some (.int .i64 (rd l0 x8_4)) ∧ w'.cell? (ad1010.add (x6_2).toNat) = some (.int .i64 (rd l0 x6_2))) (ds := []) #[false, false, false, false, false, false, false, false, false, false] (by kernel_rfl) rfl rfl ⟨((HB.out.cell (World.block_lt_of_cell? w _ hw1010_0)).trans hw1010_0), ((HB.out.cell (World.block_lt_of_cell? w _ hw1011_0)).trans hw1011_0)⟩ (fun hHeld => ?_); refine with_tabW impl_CountPairings.tab16 impl_CountPairings.bits16 (fun HT_ HW_ => ?_)
                                                                    generalize wr.drew = w45 at HO_5 HB hx1010_0 hx1011_0 hHeld ⊢
                                                                    refine pure_ (i := 0) (N := some 53) (v := ?_) (a' := ?_) #[true, false, false, false, false, false, false, false, false, false] rfl rfl (any_of HT_.out (by kernel_rfl)) (fun _ _ _ h => h) (Or.inl ⟨by rfl, ?_⟩) ?_ ?_
                                                                    rotate_left
                                                                    · intro w'
                                                                      go_simp
                                                                      with_reducible rfl
                                                                    rotate_left
                                                                    · simp only [Act.put, List.setIfInBounds_toArray, List.set_cons_zero, List.set_cons_succ, i64_w, i32_w]
                                                                      rfl
                                                                    refine pure_ (i := 1) (N := some 54) (v := ?_) (a' := ?_) #[true, true, false, false, false, false, false, false, false, false] rfl rfl (any_of HT_.out (by kernel_rfl)) (fun _ _ _ h => h) (Or.inl ⟨by rfl, ?_⟩) ?_ ?_
                                                                    rotate_left
                                                                    · intro w'
                                                                      go_simp
                                                                      with_reducible rfl
                                                                    rotate_left
                                                                    · simp only [Act.put, List.setIfInBounds_toArray, List.set_cons_zero, List.set_cons_succ, i64_w, i32_w]
                                                                      rfl
                                                                    refine pure_ (i := 2) (N := some 55) (v := ?_) (a' := ?_) #[true, true, true, false, false, false, false, false, false, false] rfl rfl (any_of HT_.out (by kernel_rfl)) (fun _ _ _ h => h) (Or.inl ⟨by rfl, ?_⟩) ?_ ?_
                                                                    rotate_left
                                                                    · intro w'
                                                                      go_simp
                                                                      with_reducible rfl
                                                                    rotate_left
                                                                    · simp only [Act.put, List.setIfInBounds_toArray, List.set_cons_zero, List.set_cons_succ, i64_w, i32_w]
                                                                      rfl
                                                                    refine pure_ (i := 4) (N := some 57) (v := ?_) (a' := ?_) #[true, true, true, false, true, false, false, false, false, false] rfl rfl (any_of HT_.out (by kernel_rfl)) (fun _ _ _ h => h) (Or.inl ⟨by rfl, ?_⟩) ?_ ?_
                                                                    rotate_left
                                                                    · intro w'
                                                                      go_simp
                                                                      with_reducible rfl
                                                                    rotate_left
                                                                    · simp only [Act.put, List.setIfInBounds_toArray, List.set_cons_zero, List.set_cons_succ, i64_w, i32_w]
                                                                      rfl
                                                                    refine pure_ (i := 5) (N := some 58) (v := ?_) (a' := ?_) #[true, true, true, false, true, true, false, false, false, false] rfl rfl (any_of HT_.out (by kernel_rfl)) (fun _ _ _ h => h) (Or.inl ⟨by rfl, ?_⟩) ?_ ?_
                                                                    rotate_left
                                                                    · intro w'
                                                                      go_simp
                                                                      with_reducible rfl
                                                                    rotate_left
                                                                    · simp only [Act.put, List.setIfInBounds_toArray, List.set_cons_zero, List.set_cons_succ, i64_w, i32_w]
                                                                      rfl
                                                                    refine pure_ (i := 6) (N := some 59) (v := ?_) (a' := ?_) #[true, true, true, false, true, true, true, false, false, false] rfl rfl (any_of HT_.out (by kernel_rfl)) (fun _ _ _ h => h) (Or.inl ⟨by rfl, ?_⟩) ?_ ?_
                                                                    rotate_left
                                                                    · intro w'
                                                                      go_simp
                                                                      with_reducible rfl
                                                                    rotate_left
                                                                    · simp only [Act.put, List.setIfInBounds_toArray, List.set_cons_zero, List.set_cons_succ, i64_w, i32_w]
                                                                      rfl
                                                                    refine take_ (i := 3) (N := some 56) (v := ?_) (a' := ?_) #[true, true, true, true, true, true, true, false, false, false] rfl rfl (take_ofW HT_.out HW_.out (by kernel_rfl)) (fun _ _ _ h => h) (Or.inl ⟨by rfl, ?_⟩) hHeld ?_ ?_
                                                                    rotate_left
                                                                    · rintro w' ⟨s0, s1⟩
                                                                      go_simp
                                                                      with_reducible rfl
                                                                    rotate_left
                                                                    · simp only [Act.put, List.setIfInBounds_toArray, List.set_cons_zero, List.set_cons_succ, i64_w, i32_w]
                                                                      rfl
                                                                    refine take_ (i := 7) (N := some 60) (v := ?_) (a' := ?_) #[true, true, true, true, true, true, true, true, false, false] rfl rfl (take_ofW HT_.out HW_.out (by kernel_rfl)) (fun _ _ _ h => h) (Or.inl ⟨by rfl, ?_⟩) hHeld ?_ ?_
                                                                    rotate_left
                                                                    · rintro w' ⟨s0, s1⟩
                                                                      go_simp
                                                                      with_reducible rfl
                                                                    rotate_left
                                                                    · simp only [Act.put, List.setIfInBounds_toArray, List.set_cons_zero, List.set_cons_succ, i64_w, i32_w]
                                                                      rfl
                                                                    refine pure_ (i := 8) (N := some 61) (v := ?_) (a' := ?_) #[true, true, true, true, true, true, true, true, true, false] rfl rfl (any_of HT_.out (by kernel_rfl)) (fun _ _ _ h => h) (Or.inl ⟨by rfl, ?_⟩) ?_ ?_
                                                                    rotate_left
                                                                    · intro w'
                                                                      go_simp
                                                                      with_reducible rfl
                                                                    rotate_left
                                                                    · simp only [Act.put, List.setIfInBounds_toArray, List.set_cons_zero, List.set_cons_succ, i64_w, i32_w]
                                                                      rfl
                                                                    refine pure_ (i := 9) (N := some 62) (v := ?_) (a' := ?_) #[true, true, true, true, true, true, true, true, true, true] rfl rfl (any_of HT_.out (by kernel_rfl)) (fun _ _ _ h => h) (Or.inl ⟨by rfl, ?_⟩) ?_ ?_
                                                                    rotate_left
                                                                    · intro w'
                                                                      go_simp
                                                                      with_reducible rfl
                                                                    rotate_left
                                                                    · simp only [Act.put, List.setIfInBounds_toArray, List.set_cons_zero, List.set_cons_succ, i64_w, i32_w]
                                                                      rfl
                                                                    refine done_ (done_of HT_.out (by kernel_rfl)) ?_
                                                                    try go_wp2
                                                                    have n0_ := Aside0.mk (Kd.S_drew HO_5.out)
                                                                    have n1_ := Aside0.mk (below_drew1 HB.out)
                                                                    clear HO_5
                                                                    clear HB
                                                                    have HO_5 := n0_
                                                                    have HB := n1_
                                                                    clear n0_ n1_
                                                                    have p1012 : 0 ≤ (x6_2 : Int) := of_decide_eq_true (by first | (with_reducible assumption) | assumption)
                                                                    have q1012 : x6_2 < (x5_4.length : Int) := of_decide_eq_true (by first | (with_reducible assumption) | assumption)
                                                                    obtain ⟨ad1012, A1012_0, c1012_0, e1012, hx1012_0, hl1012_0, hi1012_0⟩ := at_L1 (Kd.S_reads' HO_5.out).2.2 x6_2 p1012 q1012
                                                                    obtain rfl : (⟨go17, 0, none⟩ : Addr) = ad1012 := (by injection e1012)
                                                                    obtain ⟨ce1012, hce1012, hMe1012, hcc1012⟩ := Kd.S_get HO_5.out [] x6_2 p1012 (by first | exact q1012 | exact of_decide_eq_true (by first | (with_reducible assumption) | assumption) | (have e_ := (Kd.S_reads' HO_5.out).1; omega))
                                                                    obtain ⟨ve1012_0, rfl, ge1012_0⟩ := hMe1012
                                                                    have hv1012_0 := hcc1012 0 _ rfl
                                                                    rw [Nat.add_zero, show ((Kd.slice 3 (Kd.int .i64))).sz = 1 from rfl, Nat.mul_one] at hv1012_0
                                                                    replace hv1012_0 := Option.some.inj (hv1012_0.symm.trans hx1012_0)
                                                                    rw [hv1012_0] at ge1012_0
                                                                    have HL1012_0 := Aside0.mk (show Kd.R (Kd.int .i64) 3 _ _ _ _ (rd_L1 x5_4 x6_2) from ge1012_0)
                                                                    clear hv1012_0 ge1012_0
                                                                    have HX1012_0 := Aside0.mk hx1012_0
                                                                    clear hcc1012 hce1012
                                                                    (first | simp only [add_plain] at hx1012_0 | simp only [add_at] at hx1012_0 | simp only [Addr.add, Nat.zero_add] at hx1012_0 | skip)
                                                                    have HR1012_0 := Aside0.mk hi1012_0
                                                                    have HC1012_0 := Aside0.mk hl1012_0
                                                                    clear hi1012_0 hl1012_0
                                                                    replace p1012 := eq_true p1012
                                                                    replace q1012 := eq_true q1012
                                                                    have p1013 : 0 ≤ (x7_3 : Int) := of_decide_eq_true (by first | (with_reducible assumption) | assumption)
                                                                    have q1013 : x7_3 < ((rd_L1 x5_4 x6_2).length : Int) := of_decide_eq_true (by first | (with_reducible assumption) | assumption)
                                                                    obtain ⟨ad1013, e1013, hx1013_0⟩ := Kd.at_int (by repeat (first | (with_reducible exact HR1012_0.out) | (with_reducible refine Kd.C_alloc ?_ _) | (with_reducible refine Kd.C_drewN ?_ _) | (with_reducible refine Kd.C_drew ?_) | exact HR1012_0.out)) x7_3 p1013 q1013
                                                                    cases e1013
                                                                    replace p1013 := eq_true p1013
                                                                    replace q1013 := eq_true q1013
                                                                    have p1014 : 0 ≤ ((ji36) : Int) := of_decide_eq_true (by first | (with_reducible assumption) | assumption)
                                                                    have q1014 : (ji36) < (x5_4.length : Int) := of_decide_eq_true (by first | (with_reducible assumption) | assumption)
                                                                    obtain ⟨ad1014, A1014_0, c1014_0, e1014, hx1014_0, hl1014_0, hi1014_0⟩ := at_L1 (Kd.S_reads' HO_5.out).2.2 (ji36) p1014 q1014
                                                                    obtain rfl : (⟨go17, 0, none⟩ : Addr) = ad1014 := (by injection e1014)
                                                                    obtain ⟨ce1014, hce1014, hMe1014, hcc1014⟩ := Kd.S_get HO_5.out [] (ji36) p1014 (by first | exact q1014 | exact of_decide_eq_true (by first | (with_reducible assumption) | assumption) | (have e_ := (Kd.S_reads' HO_5.out).1; omega))
                                                                    obtain ⟨ve1014_0, rfl, ge1014_0⟩ := hMe1014
                                                                    have hv1014_0 := hcc1014 0 _ rfl
                                                                    rw [Nat.add_zero, show ((Kd.slice 3 (Kd.int .i64))).sz = 1 from rfl, Nat.mul_one] at hv1014_0
                                                                    replace hv1014_0 := Option.some.inj (hv1014_0.symm.trans hx1014_0)
                                                                    rw [hv1014_0] at ge1014_0
                                                                    have HL1014_0 := Aside0.mk (show Kd.R (Kd.int .i64) 3 _ _ _ _ (rd_L1 x5_4 (ji36)) from ge1014_0)
                                                                    clear hv1014_0 ge1014_0
                                                                    have HX1014_0 := Aside0.mk hx1014_0
                                                                    clear hcc1014 hce1014
                                                                    (first | simp only [add_plain] at hx1014_0 | simp only [add_at] at hx1014_0 | simp only [Addr.add, Nat.zero_add] at hx1014_0 | skip)
                                                                    have HR1014_0 := Aside0.mk hi1014_0
                                                                    have HC1014_0 := Aside0.mk hl1014_0
                                                                    clear hi1014_0 hl1014_0
                                                                    replace p1014 := eq_true p1014
                                                                    replace q1014 := eq_true q1014
                                                                    have p1015 : 0 ≤ (x8_4 : Int) := of_decide_eq_true (by first | (with_reducible assumption) | assumption)
                                                                    have q1015 : x8_4 < ((rd_L1 x5_4 (ji36)).length : Int) := of_decide_eq_true (by first | (with_reducible assumption) | assumption)
                                                                    obtain ⟨ad1015, e1015, hx1015_0⟩ := Kd.at_int (by repeat (first | (with_reducible exact HR1014_0.out) | (with_reducible refine Kd.C_alloc ?_ _) | (with_reducible refine Kd.C_drewN ?_ _) | (with_reducible refine Kd.C_drew ?_) | exact HR1014_0.out)) x8_4 p1015 q1015
                                                                    cases e1015
                                                                    replace p1015 := eq_true p1015
                                                                    replace q1015 := eq_true q1015
                                                                    have p1016 : 0 ≤ ((ji40) : Int) := of_decide_eq_true (by first | (with_reducible assumption) | assumption)
                                                                    have q1016 : (ji40) < (x5_4.length : Int) := of_decide_eq_true (by first | (with_reducible assumption) | assumption)
                                                                    obtain ⟨ad1016, A1016_0, c1016_0, e1016, hx1016_0, hl1016_0, hi1016_0⟩ := at_L1 (Kd.S_reads' HO_5.out).2.2 (ji40) p1016 q1016
                                                                    obtain rfl : (⟨go17, 0, none⟩ : Addr) = ad1016 := (by injection e1016)
                                                                    obtain ⟨ce1016, hce1016, hMe1016, hcc1016⟩ := Kd.S_get HO_5.out [] (ji40) p1016 (by first | exact q1016 | exact of_decide_eq_true (by first | (with_reducible assumption) | assumption) | (have e_ := (Kd.S_reads' HO_5.out).1; omega))
                                                                    obtain ⟨ve1016_0, rfl, ge1016_0⟩ := hMe1016
                                                                    have hv1016_0 := hcc1016 0 _ rfl
                                                                    rw [Nat.add_zero, show ((Kd.slice 3 (Kd.int .i64))).sz = 1 from rfl, Nat.mul_one] at hv1016_0
                                                                    replace hv1016_0 := Option.some.inj (hv1016_0.symm.trans hx1016_0)
                                                                    rw [hv1016_0] at ge1016_0
                                                                    have HL1016_0 := Aside0.mk (show Kd.R (Kd.int .i64) 3 _ _ _ _ (rd_L1 x5_4 (ji40)) from ge1016_0)
                                                                    clear hv1016_0 ge1016_0
                                                                    have HX1016_0 := Aside0.mk hx1016_0
                                                                    clear hcc1016 hce1016
                                                                    (first | simp only [add_plain] at hx1016_0 | simp only [add_at] at hx1016_0 | simp only [Addr.add, Nat.zero_add] at hx1016_0 | skip)
                                                                    have HR1016_0 := Aside0.mk hi1016_0
                                                                    have HC1016_0 := Aside0.mk hl1016_0
                                                                    clear hi1016_0 hl1016_0
                                                                    replace p1016 := eq_true p1016
                                                                    replace q1016 := eq_true q1016
                                                                    have p1017 : 0 ≤ (x7_3 : Int) := of_decide_eq_true (by first | (with_reducible assumption) | assumption)
                                                                    have q1017 : x7_3 < ((rd_L1 x5_4 (ji40)).length : Int) := of_decide_eq_true (by first | (with_reducible assumption) | assumption)
                                                                    obtain ⟨ad1017, e1017, hx1017_0⟩ := Kd.at_int (by repeat (first | (with_reducible exact HR1016_0.out) | (with_reducible refine Kd.C_alloc ?_ _) | (with_reducible refine Kd.C_drewN ?_ _) | (with_reducible refine Kd.C_drew ?_) | exact HR1016_0.out)) x7_3 p1017 q1017
                                                                    cases e1017
                                                                    replace p1017 := eq_true p1017
                                                                    replace q1017 := eq_true q1017
                                                                    have p44 : 0 ≤ (x7_3 : Int) := of_decide_eq_true (by first | (with_reducible assumption) | assumption)
                                                                    have q44 : (x7_3 : Int) < (((rd_L1 x5_4 x6_2).length : Int) : Int) := of_decide_eq_true (by first | (with_reducible assumption) | assumption)
                                                                    obtain ⟨go44, co44, eo44, gb44, gl44, cl44, HG44⟩ := Kd.R_form HL1012_0.out (by omega)
                                                                    (first | cases eo44 | (injection eo44 with ea_ en_ ec_; (first | subst ea_ | (injection ea_ with ea_; subst ea_)); subst ec_; clear en_))
                                                                    have GB44 := Aside0.mk gb44
                                                                    have GG44 := Aside0.mk HG44
                                                                    clear gb44 gl44 HG44
                                                                    (first | simp only [add_plain] at hx1013_0 | skip)
                                                                    obtain ⟨hx44_0, hf44_0⟩ := Kd.R_celln 0 HL1012_0.out (x7_3 : Int) p44 q44
                                                                    replace p44 := eq_true p44
                                                                    replace q44 := eq_true q44
                                                                    have hq47 : (x6_2 : Int) < (x5_4.length : Int) := (by have h_ : (x6_2 : Int) < ((x5_4.length : Int) : Int) := of_decide_eq_true (by first | (with_reducible assumption) | assumption); first | exact h_ | (have e_ := (Kd.S_reads' HO_5.out).1; omega) | simpa only [List.length_set, List.length_set] using h_)
                                                                    obtain ⟨oki47, ce47, hcl47, hM47, hcc47, hok47, hbk47⟩ := Kd.S_borrow HO_5.out [] (x6_2 : Int) (of_decide_eq_true (by first | (with_reducible assumption) | assumption)) hq47
                                                                    obtain ⟨ve47_0, rfl, ge47_0⟩ := hM47
                                                                    have hv47 := hcc47 0 _ rfl
                                                                    rw [Nat.add_zero, show ((Kd.slice 3 (Kd.int .i64))).sz = 1 from rfl, Nat.mul_one] at hv47
                                                                    replace hv47 := Option.some.inj (hv47.symm.trans HX1012_0.out)
                                                                    subst hv47
                                                                    clear hcc47 hcl47
                                                                    replace ge47_0 := (show Kd.R (Kd.int .i64) 3 _ _ _ _ (rd_L1 x5_4 x6_2) from ge47_0)
                                                                    have HP47 := Kd.R_putg ge47_0 (x7_3 : Int) (wrap64 ((rd (rd_L1 x5_4 x6_2) x7_3) + (wrap64 ((rd (rd_L1 x5_4 (ji36)) x8_4) * (rd (rd_L1 x5_4 (ji40)) x7_3)))))
                                                                    rw [← Ny1018.out] at HP47
                                                                    have HS47 := hbk47 HP47.2 (fun k_ e_ => by injection e_ with e_; subst e_; exact ge47_0.1 _ rfl) (x' := y1018) (Kd.M_row HP47.1)
                                                                    rw [← Ny1020.out] at HS47
                                                                    have HQ47 := Aside0.mk HS47
                                                                    clear HP47 HS47 hbk47 hok47
                                                                    refine start_ (n := 27) (S := fun w' => w'.cell? ⟨go17, (x6_2).toNat, none⟩ = some (.slice (some ⟨go44, 0, none⟩) (rd_L1 x5_4 x6_2).length c1012_0) ∧ w'.cell? ⟨go44, (x7_3).toNat, none⟩ = some (.int .i64 (rd (rd_L1 x5_4 x6_2) x7_3)) ∧ w'.cell? ⟨go17, ((ji36)).toNat, none⟩ = some (.slice (some ad1015) (rd_L1 x5_4 (ji36)).length c1014_0) ∧ w'.cell? (ad1015.add (x8_4).toNat) = some (.int .i64 (rd (rd_L1 x5_4 (ji36)) x8_4)) ∧ w'.cell? ⟨go17, ((ji40)).toNat, none⟩ = some (.slice (some ad1017) (rd_L1 x5_4 (ji40)).length c1016_0) ∧ w'.cell? (ad1017.add (x7_3).toNat) = some (.int .i64 (rd (rd_L1 x5_4 (ji40)) x7_3))) (ds := [26]) #[false, false, false, false, false, false, false, false, false, false, false, false, false, false, false, false, false, false, false, false, false, false, false, false, false, false, false] (by kernel_rfl) rfl rfl ⟨hx1012_0, hx1013_0, hx1014_0, hx1015_0, hx1016_0, hx1017_0⟩ (fun hHeld => ?_); refine with_tabW impl_CountPairings.tab17 impl_CountPairings.bits17 (fun HT_ HW_ => ?_)
                                                                    generalize w45.drew = w46 at HO_5 HB GG44 HL1012_0 HL1014_0 HL1016_0 HQ47 HR1012_0 HR1014_0 HR1016_0 HX1012_0 HX1014_0 HX1016_0 hf44_0 hx1012_0 hx1013_0 hx1014_0 hx1015_0 hx1016_0 hx1017_0 hx44_0 hHeld ⊢
                                                                    refine pure_ (i := 0) (N := some 63) (v := ?_) (a' := ?_) #[true, false, false, false, false, false, false, false, false, false, false, false, false, false, false, false, false, false, false, false, false, false, false, false, false, false, false] rfl rfl (any_of HT_.out (by kernel_rfl)) (fun _ _ _ h => h) (Or.inl ⟨by rfl, ?_⟩) ?_ ?_
                                                                    rotate_left
                                                                    · intro w'
                                                                      go_simp
                                                                      with_reducible rfl
                                                                    rotate_left
                                                                    · simp only [Act.put, List.setIfInBounds_toArray, List.set_cons_zero, List.set_cons_succ, i64_w, i32_w]
                                                                      rfl
                                                                    refine pure_ (i := 1) (N := some 64) (v := ?_) (a' := ?_) #[true, true, false, false, false, false, false, false, false, false, false, false, false, false, false, false, false, false, false, false, false, false, false, false, false, false, false] rfl rfl (any_of HT_.out (by kernel_rfl)) (fun _ _ _ h => h) (Or.inl ⟨by rfl, ?_⟩) ?_ ?_
                                                                    rotate_left
                                                                    · intro w'
                                                                      go_simp
                                                                      with_reducible rfl
                                                                    rotate_left
                                                                    · simp only [Act.put, List.setIfInBounds_toArray, List.set_cons_zero, List.set_cons_succ, i64_w, i32_w]
                                                                      rfl
                                                                    refine pure_ (i := 2) (N := some 65) (v := ?_) (a' := ?_) #[true, true, true, false, false, false, false, false, false, false, false, false, false, false, false, false, false, false, false, false, false, false, false, false, false, false, false] rfl rfl (any_of HT_.out (by kernel_rfl)) (fun _ _ _ h => h) (Or.inl ⟨by rfl, ?_⟩) ?_ ?_
                                                                    rotate_left
                                                                    · intro w'
                                                                      go_simp
                                                                      with_reducible rfl
                                                                    rotate_left
                                                                    · simp only [Act.put, List.setIfInBounds_toArray, List.set_cons_zero, List.set_cons_succ, i64_w, i32_w]
                                                                      rfl
                                                                    refine pure_ (i := 4) (N := some 67) (v := ?_) (a' := ?_) #[true, true, true, false, true, false, false, false, false, false, false, false, false, false, false, false, false, false, false, false, false, false, false, false, false, false, false] rfl rfl (any_of HT_.out (by kernel_rfl)) (fun _ _ _ h => h) (Or.inl ⟨by rfl, ?_⟩) ?_ ?_
                                                                    rotate_left
                                                                    · intro w'
                                                                      go_simp
                                                                      with_reducible rfl
                                                                    rotate_left
                                                                    · simp only [Act.put, List.setIfInBounds_toArray, List.set_cons_zero, List.set_cons_succ, i64_w, i32_w]
                                                                      rfl
                                                                    refine pure_ (i := 7) (N := some 70) (v := ?_) (a' := ?_) #[true, true, true, false, true, false, false, true, false, false, false, false, false, false, false, false, false, false, false, false, false, false, false, false, false, false, false] rfl rfl (any_of HT_.out (by kernel_rfl)) (fun _ _ _ h => h) (Or.inl ⟨by rfl, ?_⟩) ?_ ?_
                                                                    rotate_left
                                                                    · intro w'
                                                                      go_simp
                                                                      with_reducible rfl
                                                                    rotate_left
                                                                    · simp only [Act.put, List.setIfInBounds_toArray, List.set_cons_zero, List.set_cons_succ, i64_w, i32_w]
                                                                      rfl
                                                                    refine pure_ (i := 8) (N := some 71) (v := ?_) (a' := ?_) #[true, true, true, false, true, false, false, true, true, false, false, false, false, false, false, false, false, false, false, false, false, false, false, false, false, false, false] rfl rfl (any_of HT_.out (by kernel_rfl)) (fun _ _ _ h => h) (Or.inl ⟨by rfl, ?_⟩) ?_ ?_
                                                                    rotate_left
                                                                    · intro w'
                                                                      go_simp
                                                                      with_reducible rfl
                                                                    rotate_left
                                                                    · simp only [Act.put, List.setIfInBounds_toArray, List.set_cons_zero, List.set_cons_succ, i64_w, i32_w]
                                                                      rfl
                                                                    refine pure_ (i := 9) (N := some 72) (v := ?_) (a' := ?_) #[true, true, true, false, true, false, false, true, true, true, false, false, false, false, false, false, false, false, false, false, false, false, false, false, false, false, false] rfl rfl (any_of HT_.out (by kernel_rfl)) (fun _ _ _ h => h) (Or.inl ⟨by rfl, ?_⟩) ?_ ?_
                                                                    rotate_left
                                                                    · intro w'
                                                                      go_simp
                                                                      with_reducible rfl
                                                                    rotate_left
                                                                    · simp only [Act.put, List.setIfInBounds_toArray, List.set_cons_zero, List.set_cons_succ, i64_w, i32_w]
                                                                      rfl
                                                                    refine pure_ (i := 10) (N := some 73) (v := ?_) (a' := ?_) #[true, true, true, false, true, false, false, true, true, true, true, false, false, false, false, false, false, false, false, false, false, false, false, false, false, false, false] rfl rfl (any_of HT_.out (by kernel_rfl)) (fun _ _ _ h => h) (Or.inl ⟨by rfl, ?_⟩) ?_ ?_
                                                                    rotate_left
                                                                    · intro w'
                                                                      go_simp
                                                                      with_reducible rfl
                                                                    rotate_left
                                                                    · simp only [Act.put, List.setIfInBounds_toArray, List.set_cons_zero, List.set_cons_succ, i64_w, i32_w]
                                                                      rfl
                                                                    refine pure_ (i := 12) (N := some 75) (v := ?_) (a' := ?_) #[true, true, true, false, true, false, false, true, true, true, true, false, true, false, false, false, false, false, false, false, false, false, false, false, false, false, false] rfl rfl (any_of HT_.out (by kernel_rfl)) (fun _ _ _ h => h) (Or.inl ⟨by rfl, ?_⟩) ?_ ?_
                                                                    rotate_left
                                                                    · intro w'
                                                                      go_simp
                                                                      with_reducible rfl
                                                                    rotate_left
                                                                    · simp only [Act.put, List.setIfInBounds_toArray, List.set_cons_zero, List.set_cons_succ, i64_w, i32_w]
                                                                      rfl
                                                                    refine pure_ (i := 15) (N := some 78) (v := ?_) (a' := ?_) #[true, true, true, false, true, false, false, true, true, true, true, false, true, false, false, true, false, false, false, false, false, false, false, false, false, false, false] rfl rfl (any_of HT_.out (by kernel_rfl)) (fun _ _ _ h => h) (Or.inl ⟨by rfl, ?_⟩) ?_ ?_
                                                                    rotate_left
                                                                    · intro w'
                                                                      go_simp
                                                                      with_reducible rfl
                                                                    rotate_left
                                                                    · simp only [Act.put, List.setIfInBounds_toArray, List.set_cons_zero, List.set_cons_succ, i64_w, i32_w]
                                                                      rfl
                                                                    refine pure_ (i := 16) (N := some 79) (v := ?_) (a' := ?_) #[true, true, true, false, true, false, false, true, true, true, true, false, true, false, false, true, true, false, false, false, false, false, false, false, false, false, false] rfl rfl (any_of HT_.out (by kernel_rfl)) (fun _ _ _ h => h) (Or.inl ⟨by rfl, ?_⟩) ?_ ?_
                                                                    rotate_left
                                                                    · intro w'
                                                                      go_simp
                                                                      with_reducible rfl
                                                                    rotate_left
                                                                    · simp only [Act.put, List.setIfInBounds_toArray, List.set_cons_zero, List.set_cons_succ, i64_w, i32_w]
                                                                      rfl
                                                                    refine pure_ (i := 17) (N := some 80) (v := ?_) (a' := ?_) #[true, true, true, false, true, false, false, true, true, true, true, false, true, false, false, true, true, true, false, false, false, false, false, false, false, false, false] rfl rfl (any_of HT_.out (by kernel_rfl)) (fun _ _ _ h => h) (Or.inl ⟨by rfl, ?_⟩) ?_ ?_
                                                                    rotate_left
                                                                    · intro w'
                                                                      go_simp
                                                                      with_reducible rfl
                                                                    rotate_left
                                                                    · simp only [Act.put, List.setIfInBounds_toArray, List.set_cons_zero, List.set_cons_succ, i64_w, i32_w]
                                                                      rfl
                                                                    refine pure_ (i := 18) (N := some 81) (v := ?_) (a' := ?_) #[true, true, true, false, true, false, false, true, true, true, true, false, true, false, false, true, true, true, true, false, false, false, false, false, false, false, false] rfl rfl (any_of HT_.out (by kernel_rfl)) (fun _ _ _ h => h) (Or.inl ⟨by rfl, ?_⟩) ?_ ?_
                                                                    rotate_left
                                                                    · intro w'
                                                                      go_simp
                                                                      with_reducible rfl
                                                                    rotate_left
                                                                    · simp only [Act.put, List.setIfInBounds_toArray, List.set_cons_zero, List.set_cons_succ, i64_w, i32_w]
                                                                      rfl
                                                                    refine pure_ (i := 20) (N := some 83) (v := ?_) (a' := ?_) #[true, true, true, false, true, false, false, true, true, true, true, false, true, false, false, true, true, true, true, false, true, false, false, false, false, false, false] rfl rfl (any_of HT_.out (by kernel_rfl)) (fun _ _ _ h => h) (Or.inl ⟨by rfl, ?_⟩) ?_ ?_
                                                                    rotate_left
                                                                    · intro w'
                                                                      go_simp
                                                                      with_reducible rfl
                                                                    rotate_left
                                                                    · simp only [Act.put, List.setIfInBounds_toArray, List.set_cons_zero, List.set_cons_succ, i64_w, i32_w]
                                                                      rfl
                                                                    refine take_ (i := 3) (N := some 66) (v := ?_) (a' := ?_) #[true, true, true, true, true, false, false, true, true, true, true, false, true, false, false, true, true, true, true, false, true, false, false, false, false, false, false] rfl rfl (take_ofW HT_.out HW_.out (by kernel_rfl)) (fun _ _ _ h => h) (Or.inl ⟨by rfl, ?_⟩) hHeld ?_ ?_
                                                                    rotate_left
                                                                    · rintro w' ⟨s0, s1, s2, s3, s4, s5⟩
                                                                      go_simp
                                                                      with_reducible rfl
                                                                    rotate_left
                                                                    · simp only [Act.put, List.setIfInBounds_toArray, List.set_cons_zero, List.set_cons_succ, i64_w, i32_w]
                                                                      rfl
                                                                    refine pure_ (i := 5) (N := some 68) (v := ?_) (a' := ?_) #[true, true, true, true, true, true, false, true, true, true, true, false, true, false, false, true, true, true, true, false, true, false, false, false, false, false, false] rfl rfl (any_of HT_.out (by kernel_rfl)) (fun _ _ _ h => h) (Or.inl ⟨by rfl, ?_⟩) ?_ ?_
                                                                    rotate_left
                                                                    · intro w'
                                                                      go_simp
                                                                      with_reducible rfl
                                                                    rotate_left
                                                                    · simp only [Act.put, List.setIfInBounds_toArray, List.set_cons_zero, List.set_cons_succ, i64_w, i32_w]
                                                                      rfl
                                                                    refine take_ (i := 6) (N := some 69) (v := ?_) (a' := ?_) #[true, true, true, true, true, true, true, true, true, true, true, false, true, false, false, true, true, true, true, false, true, false, false, false, false, false, false] rfl rfl (take_ofW HT_.out HW_.out (by kernel_rfl)) (fun _ _ _ h => h) (Or.inl ⟨by rfl, ?_⟩) hHeld ?_ ?_
                                                                    rotate_left
                                                                    · rintro w' ⟨s0, s1, s2, s3, s4, s5⟩
                                                                      go_simp
                                                                      with_reducible rfl
                                                                    rotate_left
                                                                    · simp only [Act.put, List.setIfInBounds_toArray, List.set_cons_zero, List.set_cons_succ, i64_w, i32_w]
                                                                      rfl
                                                                    refine take_ (i := 11) (N := some 74) (v := ?_) (a' := ?_) #[true, true, true, true, true, true, true, true, true, true, true, true, true, false, false, true, true, true, true, false, true, false, false, false, false, false, false] rfl rfl (take_ofW HT_.out HW_.out (by kernel_rfl)) (fun _ _ _ h => h) (Or.inl ⟨by rfl, ?_⟩) hHeld ?_ ?_
                                                                    rotate_left
                                                                    · rintro w' ⟨s0, s1, s2, s3, s4, s5⟩
                                                                      go_simp
                                                                      with_reducible rfl
                                                                    rotate_left
                                                                    · simp only [Act.put, List.setIfInBounds_toArray, List.set_cons_zero, List.set_cons_succ, i64_w, i32_w]
                                                                      rfl
                                                                    refine pure_ (i := 13) (N := some 76) (v := ?_) (a' := ?_) #[true, true, true, true, true, true, true, true, true, true, true, true, true, true, false, true, true, true, true, false, true, false, false, false, false, false, false] rfl rfl (any_of HT_.out (by kernel_rfl)) (fun _ _ _ h => h) (Or.inl ⟨by rfl, ?_⟩) ?_ ?_
                                                                    rotate_left
                                                                    · intro w'
                                                                      go_simp
                                                                      with_reducible rfl
                                                                    rotate_left
                                                                    · simp only [Act.put, List.setIfInBounds_toArray, List.set_cons_zero, List.set_cons_succ, i64_w, i32_w]
                                                                      rfl
                                                                    refine take_ (i := 14) (N := some 77) (v := ?_) (a' := ?_) #[true, true, true, true, true, true, true, true, true, true, true, true, true, true, true, true, true, true, true, false, true, false, false, false, false, false, false] rfl rfl (take_ofW HT_.out HW_.out (by kernel_rfl)) (fun _ _ _ h => h) (Or.inl ⟨by rfl, ?_⟩) hHeld ?_ ?_
                                                                    rotate_left
                                                                    · rintro w' ⟨s0, s1, s2, s3, s4, s5⟩
                                                                      go_simp
                                                                      with_reducible rfl
                                                                    rotate_left
                                                                    · simp only [Act.put, List.setIfInBounds_toArray, List.set_cons_zero, List.set_cons_succ, i64_w, i32_w]
                                                                      rfl
                                                                    refine take_ (i := 19) (N := some 82) (v := ?_) (a' := ?_) #[true, true, true, true, true, true, true, true, true, true, true, true, true, true, true, true, true, true, true, true, true, false, false, false, false, false, false] rfl rfl (take_ofW HT_.out HW_.out (by kernel_rfl)) (fun _ _ _ h => h) (Or.inl ⟨by rfl, ?_⟩) hHeld ?_ ?_
                                                                    rotate_left
                                                                    · rintro w' ⟨s0, s1, s2, s3, s4, s5⟩
                                                                      go_simp
                                                                      with_reducible rfl
                                                                    rotate_left
                                                                    · simp only [Act.put, List.setIfInBounds_toArray, List.set_cons_zero, List.set_cons_succ, i64_w, i32_w]
                                                                      rfl
                                                                    refine pure_ (i := 21) (N := some 84) (v := ?_) (a' := ?_) #[true, true, true, true, true, true, true, true, true, true, true, true, true, true, true, true, true, true, true, true, true, true, false, false, false, false, false] rfl rfl (any_of HT_.out (by kernel_rfl)) (fun _ _ _ h => h) (Or.inl ⟨by rfl, ?_⟩) ?_ ?_
                                                                    rotate_left
                                                                    · intro w'
                                                                      go_simp
                                                                      with_reducible rfl
                                                                    rotate_left
                                                                    · simp only [Act.put, List.setIfInBounds_toArray, List.set_cons_zero, List.set_cons_succ, i64_w, i32_w]
                                                                      rfl
                                                                    refine take_ (i := 22) (N := some 85) (v := ?_) (a' := ?_) #[true, true, true, true, true, true, true, true, true, true, true, true, true, true, true, true, true, true, true, true, true, true, true, false, false, false, false] rfl rfl (take_ofW HT_.out HW_.out (by kernel_rfl)) (fun _ _ _ h => h) (Or.inl ⟨by rfl, ?_⟩) hHeld ?_ ?_
                                                                    rotate_left
                                                                    · rintro w' ⟨s0, s1, s2, s3, s4, s5⟩
                                                                      go_simp
                                                                      with_reducible rfl
                                                                    rotate_left
                                                                    · simp only [Act.put, List.setIfInBounds_toArray, List.set_cons_zero, List.set_cons_succ, i64_w, i32_w]
                                                                      rfl
                                                                    refine pure_ (i := 23) (N := some 86) (v := ?_) (a' := ?_) #[true, true, true, true, true, true, true, true, true, true, true, true, true, true, true, true, true, true, true, true, true, true, true, true, false, false, false] rfl rfl (any_of HT_.out (by kernel_rfl)) (fun _ _ _ h => h) (Or.inl ⟨by rfl, ?_⟩) ?_ ?_
                                                                    rotate_left
                                                                    · intro w'
                                                                      go_simp
                                                                      with_reducible rfl
                                                                    rotate_left
                                                                    · simp only [Act.put, List.setIfInBounds_toArray, List.set_cons_zero, List.set_cons_succ, i64_w, i32_w]
                                                                      rfl
                                                                    refine pure_ (i := 24) (N := some 87) (v := ?_) (a' := ?_) #[true, true, true, true, true, true, true, true, true, true, true, true, true, true, true, true, true, true, true, true, true, true, true, true, true, false, false] rfl rfl (any_of HT_.out (by kernel_rfl)) (fun _ _ _ h => h) (Or.inl ⟨by rfl, ?_⟩) ?_ ?_
                                                                    rotate_left
                                                                    · intro w'
                                                                      go_simp
                                                                      with_reducible rfl
                                                                    rotate_left
                                                                    · simp only [Act.put, List.setIfInBounds_toArray, List.set_cons_zero, List.set_cons_succ, i64_w, i32_w]
                                                                      rfl
                                                                    refine pure_ (i := 25) (N := some 88) (v := ?_) (a' := ?_) #[true, true, true, true, true, true, true, true, true, true, true, true, true, true, true, true, true, true, true, true, true, true, true, true, true, true, false] rfl rfl (any_of HT_.out (by kernel_rfl)) (fun _ _ _ h => h) (Or.inl ⟨by rfl, ?_⟩) ?_ ?_
                                                                    rotate_left
                                                                    · intro w'
                                                                      go_simp
                                                                      with_reducible rfl
                                                                    rotate_left
                                                                    · simp only [Act.put, List.setIfInBounds_toArray, List.set_cons_zero, List.set_cons_succ, i64_w, i32_w]
                                                                      rfl
                                                                    refine last_ (i := 26) (N := none) #[true, true, true, true, true, true, true, true, true, true, true, true, true, true, true, true, true, true, true, true, true, true, true, true, true, true, true] rfl rfl (one_of HT_.out (by kernel_rfl)) (by decide) (fun K hK => ?_)
                                                                    refine skip_ (w1 := ?_) (by rfl) rfl ?_ ?_
                                                                    rotate_left
                                                                    · go_simp
                                                                      rfl
                                                                    refine hK.out _ _ ?_
                                                                    clear hK K
                                                                    refine done_ (done_of HT_.out (by kernel_rfl)) ?_
                                                                    try go_wp2
                                                                    (try simp only [← hl5_4])
                                                                    (try simp only [← hji36])
                                                                    go_roundg k4
                                                                    case measure => have := HJ1.out; have := HK2.out; have := HK3.out; have := HK4.out; omega
                                                                    case rel => (try simp only [hji36]); exact ⟨(y1020), (wrap64 (x8_4 + 2)), (by first | rfl | (simp; done) | (simp [*]; done) | (generalize ByteArray.toList _ = l_; cases l_ <;> rfl)), H', ⟨by have := HJ1.out; have := HK2.out; have := HK3.out; have := HK4.out; omega⟩, ⟨by (try simp only [hl5_3]); (try simp only [hl5_4]); (with_reducible repeat (first | apply Kd.S_alloc | apply Kd.S_drewN | apply Kd.S_drew)); exact HQ47.out⟩, ⟨by repeat (first | (with_reducible first | exact HB.out | apply below_alloc | apply pw_below_drewN | apply below_drew1 | refine below_set ?_ GB44.out) | exact HB.out)⟩⟩
                                                                  · rw [if_neg c43] at H
                                                                    exact absurd H (by simp)
                                                                · rw [if_neg c42] at H
                                                                  exact absurd H (by simp)
                                                              · rw [if_neg c41] at H
                                                                exact absurd H (by simp)
                                                            · rw [if_neg c39] at H
                                                              exact absurd H (by simp)
                                                          · rw [if_neg c38] at H
                                                            exact absurd H (by simp)
                                                        · rw [if_neg c37] at H
                                                          exact absurd H (by simp)
                                                      · rw [if_neg c35] at H
                                                        exact absurd H (by simp)
                                                    · rw [if_neg c34] at H
                                                      exact absurd H (by simp)
                                                  · rw [if_neg c33] at H
                                                    exact absurd H (by simp)
                                                · rw [if_neg c32] at H
                                                  have c32b0 : ((rd l0 x8_4) == (wrap64 (-(rd l0 x6_2)))) = false := beq_eq_false_iff_ne.mpr c32
                                                  have c32b1 : ((rd l0 x8_4) != (wrap64 (-(rd l0 x6_2)))) = true := bne_iff_ne.mpr c32
                                                  have H' := Aside0.mk H
                                                  clear H
                                                  try go_wp2
                                                  have n0_ := Aside0.mk (Kd.S_drew HO_5.out)
                                                  have n1_ := Aside0.mk (below_drew1 HB.out)
                                                  clear HO_5
                                                  clear HB
                                                  have HO_5 := n0_
                                                  have HB := n1_
                                                  clear n0_ n1_
                                                  have p1010 : 0 ≤ (x8_4 : Int) := of_decide_eq_true (by first | (with_reducible assumption) | assumption)
                                                  have q1010 : x8_4 < (l0.length : Int) := of_decide_eq_true (by first | (with_reducible assumption) | assumption)
                                                  obtain ⟨ad1010, e1010, hx1010_0⟩ := Kd.at_int HR0.out x8_4 p1010 q1010
                                                  have hw1010_0 := hx1010_0
                                                  cases e1010
                                                  replace hx1010_0 := (HB.out.cell (World.block_lt_of_cell? w _ hx1010_0)).trans hx1010_0
                                                  replace p1010 := eq_true p1010
                                                  replace q1010 := eq_true q1010
                                                  have p1011 : 0 ≤ (x6_2 : Int) := of_decide_eq_true (by first | (with_reducible assumption) | assumption)
                                                  have q1011 : x6_2 < (l0.length : Int) := of_decide_eq_true (by first | (with_reducible assumption) | assumption)
                                                  obtain ⟨ad1011, e1011, hx1011_0⟩ := Kd.at_int HR0.out x6_2 p1011 q1011
                                                  have hw1011_0 := hx1011_0
                                                  obtain rfl : ad1010 = ad1011 := (by injection e1011)
                                                  replace hx1011_0 := (HB.out.cell (World.block_lt_of_cell? w _ hx1011_0)).trans hx1011_0
                                                  replace p1011 := eq_true p1011
                                                  replace q1011 := eq_true q1011
                                                  refine start_ (n := 10) (S := fun w' => w'.cell? (ad1010.add (x8_4).toNat) = some (.int .i64 (rd l0 x8_4)) ∧ w'.cell? (ad1010.add (x6_2).toNat) = some (.int .i64 (rd l0 x6_2))) (ds := []) #[false, false, false, false, false, false, false, false, false, false] (by kernel_rfl) rfl rfl ⟨((HB.out.cell (World.block_lt_of_cell? w _ hw1010_0)).trans hw1010_0), ((HB.out.cell (World.block_lt_of_cell? w _ hw1011_0)).trans hw1011_0)⟩ (fun hHeld => ?_); refine with_tabW impl_CountPairings.tab16 impl_CountPairings.bits16 (fun HT_ HW_ => ?_)
                                                  generalize wr.drew = w49 at HO_5 HB hx1010_0 hx1011_0 hHeld ⊢
                                                  refine pure_ (i := 0) (N := some 53) (v := ?_) (a' := ?_) #[true, false, false, false, false, false, false, false, false, false] rfl rfl (any_of HT_.out (by kernel_rfl)) (fun _ _ _ h => h) (Or.inl ⟨by rfl, ?_⟩) ?_ ?_
                                                  rotate_left
                                                  · intro w'
                                                    go_simp
                                                    with_reducible rfl
                                                  rotate_left
                                                  · simp only [Act.put, List.setIfInBounds_toArray, List.set_cons_zero, List.set_cons_succ, i64_w, i32_w]
                                                    rfl
                                                  refine pure_ (i := 1) (N := some 54) (v := ?_) (a' := ?_) #[true, true, false, false, false, false, false, false, false, false] rfl rfl (any_of HT_.out (by kernel_rfl)) (fun _ _ _ h => h) (Or.inl ⟨by rfl, ?_⟩) ?_ ?_
                                                  rotate_left
                                                  · intro w'
                                                    go_simp
                                                    with_reducible rfl
                                                  rotate_left
                                                  · simp only [Act.put, List.setIfInBounds_toArray, List.set_cons_zero, List.set_cons_succ, i64_w, i32_w]
                                                    rfl
                                                  refine pure_ (i := 2) (N := some 55) (v := ?_) (a' := ?_) #[true, true, true, false, false, false, false, false, false, false] rfl rfl (any_of HT_.out (by kernel_rfl)) (fun _ _ _ h => h) (Or.inl ⟨by rfl, ?_⟩) ?_ ?_
                                                  rotate_left
                                                  · intro w'
                                                    go_simp
                                                    with_reducible rfl
                                                  rotate_left
                                                  · simp only [Act.put, List.setIfInBounds_toArray, List.set_cons_zero, List.set_cons_succ, i64_w, i32_w]
                                                    rfl
                                                  refine pure_ (i := 4) (N := some 57) (v := ?_) (a' := ?_) #[true, true, true, false, true, false, false, false, false, false] rfl rfl (any_of HT_.out (by kernel_rfl)) (fun _ _ _ h => h) (Or.inl ⟨by rfl, ?_⟩) ?_ ?_
                                                  rotate_left
                                                  · intro w'
                                                    go_simp
                                                    with_reducible rfl
                                                  rotate_left
                                                  · simp only [Act.put, List.setIfInBounds_toArray, List.set_cons_zero, List.set_cons_succ, i64_w, i32_w]
                                                    rfl
                                                  refine pure_ (i := 5) (N := some 58) (v := ?_) (a' := ?_) #[true, true, true, false, true, true, false, false, false, false] rfl rfl (any_of HT_.out (by kernel_rfl)) (fun _ _ _ h => h) (Or.inl ⟨by rfl, ?_⟩) ?_ ?_
                                                  rotate_left
                                                  · intro w'
                                                    go_simp
                                                    with_reducible rfl
                                                  rotate_left
                                                  · simp only [Act.put, List.setIfInBounds_toArray, List.set_cons_zero, List.set_cons_succ, i64_w, i32_w]
                                                    rfl
                                                  refine pure_ (i := 6) (N := some 59) (v := ?_) (a' := ?_) #[true, true, true, false, true, true, true, false, false, false] rfl rfl (any_of HT_.out (by kernel_rfl)) (fun _ _ _ h => h) (Or.inl ⟨by rfl, ?_⟩) ?_ ?_
                                                  rotate_left
                                                  · intro w'
                                                    go_simp
                                                    with_reducible rfl
                                                  rotate_left
                                                  · simp only [Act.put, List.setIfInBounds_toArray, List.set_cons_zero, List.set_cons_succ, i64_w, i32_w]
                                                    rfl
                                                  refine take_ (i := 3) (N := some 56) (v := ?_) (a' := ?_) #[true, true, true, true, true, true, true, false, false, false] rfl rfl (take_ofW HT_.out HW_.out (by kernel_rfl)) (fun _ _ _ h => h) (Or.inl ⟨by rfl, ?_⟩) hHeld ?_ ?_
                                                  rotate_left
                                                  · rintro w' ⟨s0, s1⟩
                                                    go_simp
                                                    with_reducible rfl
                                                  rotate_left
                                                  · simp only [Act.put, List.setIfInBounds_toArray, List.set_cons_zero, List.set_cons_succ, i64_w, i32_w]
                                                    rfl
                                                  refine take_ (i := 7) (N := some 60) (v := ?_) (a' := ?_) #[true, true, true, true, true, true, true, true, false, false] rfl rfl (take_ofW HT_.out HW_.out (by kernel_rfl)) (fun _ _ _ h => h) (Or.inl ⟨by rfl, ?_⟩) hHeld ?_ ?_
                                                  rotate_left
                                                  · rintro w' ⟨s0, s1⟩
                                                    go_simp
                                                    with_reducible rfl
                                                  rotate_left
                                                  · simp only [Act.put, List.setIfInBounds_toArray, List.set_cons_zero, List.set_cons_succ, i64_w, i32_w]
                                                    rfl
                                                  refine pure_ (i := 8) (N := some 61) (v := ?_) (a' := ?_) #[true, true, true, true, true, true, true, true, true, false] rfl rfl (any_of HT_.out (by kernel_rfl)) (fun _ _ _ h => h) (Or.inl ⟨by rfl, ?_⟩) ?_ ?_
                                                  rotate_left
                                                  · intro w'
                                                    go_simp
                                                    with_reducible rfl
                                                  rotate_left
                                                  · simp only [Act.put, List.setIfInBounds_toArray, List.set_cons_zero, List.set_cons_succ, i64_w, i32_w]
                                                    rfl
                                                  refine pure_ (i := 9) (N := some 62) (v := ?_) (a' := ?_) #[true, true, true, true, true, true, true, true, true, true] rfl rfl (any_of HT_.out (by kernel_rfl)) (fun _ _ _ h => h) (Or.inl ⟨by rfl, ?_⟩) ?_ ?_
                                                  rotate_left
                                                  · intro w'
                                                    go_simp
                                                    with_reducible rfl
                                                  rotate_left
                                                  · simp only [Act.put, List.setIfInBounds_toArray, List.set_cons_zero, List.set_cons_succ, i64_w, i32_w]
                                                    rfl
                                                  refine done_ (done_of HT_.out (by kernel_rfl)) ?_
                                                  try go_wp2
                                                  (try simp only [← hl5_4])
                                                  (try simp only [← hji36])
                                                  go_roundg k4
                                                  case measure => have := HJ1.out; have := HK2.out; have := HK3.out; have := HK4.out; omega
                                                  case rel => (try simp only [hji36]); exact ⟨(x5_4), (wrap64 (x8_4 + 2)), (by first | rfl | (simp; done) | (simp [*]; done) | (generalize ByteArray.toList _ = l_; cases l_ <;> rfl)), H', ⟨by have := HJ1.out; have := HK2.out; have := HK3.out; have := HK4.out; omega⟩, ⟨by (try simp only [hl5_3]); (try simp only [hl5_4]); (with_reducible repeat (first | apply Kd.S_alloc | apply Kd.S_drewN | apply Kd.S_drew)); exact HO_5.out⟩, ⟨by repeat (first | (with_reducible first | exact HB.out | apply below_alloc | apply pw_below_drewN | apply below_drew1) | exact HB.out)⟩⟩
                                              · rw [if_neg c31] at H
                                                exact absurd H (by simp)
                                            · rw [if_neg c30] at H
                                              exact absurd H (by simp)
                                          · rw [if_neg c29] at H
                                            exact absurd H (by simp)
                                        · rw [if_neg c28] at H
                                          exact absurd H (by simp)
                                      · rw [if_neg c27] at H
                                        have c27b0 : decide (x8_4 < x7_3) = false := decide_eq_false c27
                                        clear c27
                                        have H' := Aside0.mk H
                                        clear H
                                        go_wp2
                                        (try simp only [← hl5_3, ← hl5_4])
                                        (try simp only [← hji36])
                                        go_roundg k4
                                        case measure => have := HJ1.out; have := HK2.out; have := HK3.out; have := HK4.out; omega
                                        case rel => (try simp only [hji36]); exact ⟨(x5_4), (wrap64 (x7_3 + 2)), (by first | rfl | (simp; done) | (simp [*]; done) | (generalize ByteArray.toList _ = l_; cases l_ <;> rfl)), H', ⟨by have := HJ1.out; have := HK2.out; have := HK3.out; have := HK4.out; omega⟩, ⟨by (try simp only [hl5_3]); (try simp only [hl5_4]); (with_reducible repeat (first | apply Kd.S_alloc | apply Kd.S_drewN | apply Kd.S_drew)); exact HO_5.out⟩, ⟨by repeat (first | (with_reducible first | exact HB.out | apply below_alloc | apply pw_below_drewN | apply below_drew1) | exact HB.out)⟩⟩
                                · rw [if_neg c26] at H
                                  have c26b0 : decide (x7_3 ≤ (l0.length : Int)) = false := decide_eq_false c26
                                  clear c26
                                  have H' := Aside0.mk H
                                  clear H
                                  go_wp2
                                  (try simp only [← hl5_3])
                                  go_roundg k3
                                  case measure => have := HJ1.out; have := HK2.out; have := HK3.out; omega
                                  case rel => exact ⟨(x5_3), (wrap64 (x6_2 - 1)), (by first | rfl | (simp; done) | (simp [*]; done) | (generalize ByteArray.toList _ = l_; cases l_ <;> rfl)), H', ⟨by have := HJ1.out; have := HK2.out; have := HK3.out; omega⟩, ⟨by (try simp only [hl5_3]); (with_reducible repeat (first | apply Kd.S_alloc | apply Kd.S_drewN | apply Kd.S_drew)); exact HO_5.out⟩, ⟨by repeat (first | (with_reducible first | exact HB.out | apply below_alloc | apply pw_below_drewN | apply below_drew1) | exact HB.out)⟩⟩
                          · rw [if_neg c18] at H
                            exact absurd H (by simp)
                        · rw [if_neg c16] at H
                          exact absurd H (by simp)
                      · rw [if_neg c15] at H
                        exact absurd H (by simp)
                    · rw [if_neg c14] at H
                      exact absurd H (by simp)
                  · rw [if_neg c13] at H
                    exact absurd H (by simp)
                · rw [if_neg c11] at H
                  have c11b0 : decide (0 ≤ x6_2) = false := decide_eq_false c11
                  clear c11
                  by_cases c50 : 0 < (x5_2.length : Int)
                  · rw [if_pos c50] at H
                    have c50b0 : decide (0 < (x5_2.length : Int)) = true := decide_eq_true c50
                    have c50b1 : decide (0 < x5_2.length) = true := decide_eq_true (by omega)
                    clear c50
                    by_cases c51 : 0 ≤ (l0.length : Int)
                    · rw [if_pos c51] at H
                      have c51b0 : decide (0 ≤ (l0.length : Int)) = true := decide_eq_true c51
                      have c51b1 : decide (0 ≤ l0.length) = true := decide_eq_true (by omega)
                      clear c51
                      by_cases c52 : (l0.length : Int) < ((rd_L1 x5_2 0).length : Int)
                      · rw [if_pos c52] at H
                        have c52b0 : decide ((l0.length : Int) < ((rd_L1 x5_2 0).length : Int)) = true := decide_eq_true c52
                        have c52b1 : decide (l0.length < (rd_L1 x5_2 0).length) = true := decide_eq_true (Int.ofNat_lt.mp c52)
                        clear c52
                        simp only [Option.some.injEq, Prod.mk.injEq] at H
                        obtain ⟨rfl, rfl⟩ := H
                        obtain ⟨Ao53, co53, eo53⟩ := Kd.S_slice HO_5.out
                        subst eo53
                        have p1000 : 0 ≤ (0 : Int) := (by omega)
                        have q1000 : 0 < (x5_2.length : Int) := of_decide_eq_true (by first | (with_reducible assumption) | assumption)
                        obtain ⟨ad1000, A1000_0, c1000_0, e1000, hx1000_0, hl1000_0, hi1000_0⟩ := at_L1 (Kd.S_reads' HO_5.out).2.2 0 p1000 q1000
                        cases e1000
                        obtain ⟨ce1000, hce1000, hMe1000, hcc1000⟩ := Kd.S_get HO_5.out [] 0 p1000 (by first | exact q1000 | exact of_decide_eq_true (by first | (with_reducible assumption) | assumption) | (have e_ := (Kd.S_reads' HO_5.out).1; omega))
                        obtain ⟨ve1000_0, rfl, ge1000_0⟩ := hMe1000
                        have hv1000_0 := hcc1000 0 _ rfl
                        rw [Nat.add_zero, show ((Kd.slice 3 (Kd.int .i64))).sz = 1 from rfl, Nat.mul_one] at hv1000_0
                        replace hv1000_0 := Option.some.inj (hv1000_0.symm.trans hx1000_0)
                        rw [hv1000_0] at ge1000_0
                        have HL1000_0 := Aside0.mk (show Kd.R (Kd.int .i64) 3 _ _ _ _ (rd_L1 x5_2 0) from ge1000_0)
                        clear hv1000_0 ge1000_0
                        have HX1000_0 := Aside0.mk hx1000_0
                        clear hcc1000 hce1000
                        have qi1000 : (0 < x5_2.length) = True := eq_true (by omega)
                        (try rw [show ((0 : Int)).toNat = 0 from rfl] at hx1000_0)
                        (try rw [Addr.add_zero'] at hx1000_0)
                        have HR1000_0 := Aside0.mk hi1000_0
                        have HC1000_0 := Aside0.mk hl1000_0
                        clear hi1000_0 hl1000_0
                        replace p1000 := eq_true p1000
                        replace q1000 := eq_true q1000
                        have p1001 : 0 ≤ ((l0.length : Int) : Int) := of_decide_eq_true (by first | (with_reducible assumption) | assumption)
                        have q1001 : (l0.length : Int) < ((rd_L1 x5_2 0).length : Int) := of_decide_eq_true (by first | (with_reducible assumption) | assumption)
                        obtain ⟨ad1001, e1001, hx1001_0⟩ := Kd.at_int (by repeat (first | (with_reducible exact HR1000_0.out) | (with_reducible refine Kd.C_alloc ?_ _) | (with_reducible refine Kd.C_drewN ?_ _) | (with_reducible refine Kd.C_drew ?_) | exact HR1000_0.out)) (l0.length : Int) p1001 q1001
                        cases e1001
                        (try simp only [Go.IntWalk.toNatUp] at hx1001_0)
                        replace p1001 := eq_true p1001
                        replace q1001 := eq_true q1001
                        go_wp2
                        go_ret2
                        exact ⟨by first | rfl | (simp [errW_none, errW_some] <;> rfl) | (simp only [← hji6]; first | rfl | (simp [errW_none, errW_some] <;> rfl)) | (simp [*, errW_none, errW_some] <;> rfl), by repeat (first | (with_reducible first | exact HB.out | apply below_alloc | apply pw_below_drewN | apply below_drew1) | exact HB.out)⟩
                      · rw [if_neg c52] at H
                        exact absurd H (by simp)
                    · rw [if_neg c51] at H
                      exact absurd H (by simp)
                  · rw [if_neg c50] at H
                    exact absurd H (by simp)
          · rw [if_neg c8] at H
            exact absurd H (by simp)
        · rw [if_neg c7] at H
          exact absurd H (by simp)

end Go.Proofs.Ytgifhmjbmnopcaa.Px
