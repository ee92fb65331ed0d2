-- Written by gprint.py (wip/gprint.py of this repo), out of the translation. Not trusted: Lean checks it.
import Derived.Test.YtckmmpknaengjaaDoorPx0
namespace Go.Proofs.YtckmmpknaengjaaDoor.Px
end Go.Proofs.YtckmmpknaengjaaDoor.Px
namespace Go.Proofs.YtckmmpknaengjaaDoor.Giv
end Go.Proofs.YtckmmpknaengjaaDoor.Giv
namespace Go.Proofs.YtckmmpknaengjaaDoor.Px
open Go.Proofs.YtckmmpknaengjaaDoor.Giv
open Go.RowKit Go.Proofs.YtckmmpknaengjaaDoorW.PrintWords Go.Proofs.YtckmmpknaengjaaDoorW.PrintLast Go.Proofs.YtckmmpknaengjaaDoorW.PrintMore
attribute [local go_sem] max2_int min2_int max_two min_two max_three min_three max_four min_four   -- for this text's walks alone
set_option linter.unusedVariables false
set_option linter.unusedSimpArgs false

/-! ### impl_isNail: function 53 -/
def impl_isNail.f (a0 : Int) : Option (Bool) := if a0 ≥ 1 then (some (decide (a0 ≤ 6))) else (some false)
set_option maxHeartbeats 8000000 in
set_option maxRecDepth 100000 in
theorem impl_isNail.calls (a0 : Int) (r : Bool) (w : World) (h : impl_isNail.f a0 = some r) :
  Calls Tryd.prog 53 #[.int .i64 a0] w fun e w' => e = .returned (.bool r) ∧ Drawn0 w w' := by
 have H : (if a0 ≥ 1 then (some (decide (a0 ≤ 6))) else (some false)) = some r := h
 clear h
 by_cases c2 : a0 ≥ 1
 ·rw [if_pos c2] at H
  have c2b0 : decide (1 ≤ a0) = true := decide_eq_true c2
  clear c2
  obtain rfl := Option.some.inj H
  go_enter Tryd.func53, Tryd.ntmps53
  go_wp2
  go_ret
  exact ⟨by first | rfl | (simp; done) | (simp [*]; done), by repeat (first | exact Drawn0.refl _ | apply Drawn0.step)⟩
 ·rw [if_neg c2] at H
  have c2b0 : decide (1 ≤ a0) = false := decide_eq_false c2
  clear c2
  obtain rfl := Option.some.inj H
  go_enter Tryd.func53, Tryd.ntmps53
  go_wp2
  go_ret
  exact ⟨by first | rfl | (simp; done) | (simp [*]; done), by repeat (first | exact Drawn0.refl _ | apply Drawn0.step)⟩

/-! ### impl_isAside: function 62 -/
def impl_isAside.f (a0 : Int) : Option (Bool) := if a0 = 108 then (some true) else (some (a0 == 114))
set_option maxHeartbeats 8000000 in
set_option maxRecDepth 100000 in
theorem impl_isAside.calls (a0 : Int) (r : Bool) (w : World) (h : impl_isAside.f a0 = some r) :
  Calls Tryd.prog 62 #[.int .u8 a0] w fun e w' => e = .returned (.bool r) ∧ Drawn0 w w' := by
 have H : (if a0 = 108 then (some true) else (some (a0 == 114))) = some r := h
 clear h
 by_cases c2 : a0 = 108
 ·rw [if_pos c2] at H
  have c2b0 : (a0 == 108) = true := beq_iff_eq.mpr c2
  have c2b1 : (a0 != 108) = false := bne_eq_false_iff_eq.mpr c2
  clear c2
  obtain rfl := Option.some.inj H
  go_enter Tryd.func62, Tryd.ntmps62
  go_wp2
  go_ret
  exact ⟨by first | rfl | (simp; done) | (simp [*]; done), by repeat (first | exact Drawn0.refl _ | apply Drawn0.step)⟩
 ·rw [if_neg c2] at H
  have c2b0 : (a0 == 108) = false := beq_eq_false_iff_ne.mpr c2
  have c2b1 : (a0 != 108) = true := bne_iff_ne.mpr c2
  obtain rfl := Option.some.inj H
  go_enter Tryd.func62, Tryd.ntmps62
  go_wp2
  go_ret
  exact ⟨by first | rfl | (simp; done) | (simp [*]; done), by repeat (first | exact Drawn0.refl _ | apply Drawn0.step)⟩

end Go.Proofs.YtckmmpknaengjaaDoor.Px
