/- What is proved: for all arguments the program's IsValidLog returns what the reference's returns, shares no memory with its argument, changes none, and answers the same again (the law FnExactIsValidLog as plain Lean); no condition. -/
import Derived.Test.YtaabfffpknkpeaaDoorPx16
import Derived.Test.YtaabfffpknkpeaaDoorPx15
import Derived.Test.YtaabfffpknkpeaaDoorQLogV
namespace Go.Proofs.YtaabfffpknkpeaaDoor.Pure
open Go.RowKit Go.Proofs.YtaabfffpknkpeaaDoor.Px Go.Proofs.YtaabfffpknkpeaaDoor.Giv Go.Proofs.YtaabfffpknkpeaaDoorW.PrintWords Go.Proofs.YtaabfffpknkpeaaDoorW.PrintLast Go.Proofs.YtaabfffpknkpeaaDoor.Q
set_option linter.unusedVariables false
set_option linter.unusedSimpArgs false
theorem obind {A B : Type} (a : A) (f : A → Option B) : (some a).bind f = f a := Eq.trans (Option.bind_some a f) rfl
theorem szl_fits (x y : ByteArray) (z : Int) (h : x.size + y.size ≤ 1048576) : laws_szLog.f x y z 1048576 = some (1048576 - (x.size : Int) - (y.size : Int)) := by
  unfold laws_szLog.f
  rw [wrap_id (1048576 - (x.size : Int)) (by omega) (by omega), if_neg (by omega), wrap_id (1048576 - (x.size : Int) - (y.size : Int)) (by omega) (by omega), if_neg (by omega)]
theorem szl_over (x y : ByteArray) (z : Int) (hx : x.size ≤ 9223372036854775807) (hy : y.size ≤ 9223372036854775807) (h : ¬ x.size + y.size ≤ 1048576) : ∃ v, laws_szLog.f x y z 1048576 = some v ∧ v < 0 := by
  unfold laws_szLog.f
  by_cases h1 : x.size ≤ 1048576
  · rw [wrap_id (1048576 - (x.size : Int)) (by omega) (by omega), if_neg (by omega), wrap_id (1048576 - (x.size : Int) - (y.size : Int)) (by omega) (by omega), if_pos (by omega)]
    exact ⟨-1, rfl, by omega⟩
  · rw [wrap_id (1048576 - (x.size : Int)) (by omega) (by omega), if_pos (by omega)]
    exact ⟨-1, rfl, by omega⟩
theorem FnExactIsValidLog : laws_FnExactIsValidLog.Pure := by
  intro a0_0 a0_1 a0_2 hy0 hy1 hy2
  simp only [maxLen] at *
  by_cases hz0 : a0_0.size + a0_1.size ≤ 1048576
  rotate_left
  · obtain ⟨v, hv, hn⟩ := szl_over a0_0 a0_1 a0_2 (by omega) (by omega) hz0
    exact ⟨0, by unfold laws_FnExactIsValidLog.f; rw [hv, obind, if_pos hn]⟩
  have hsz0 := szl_fits a0_0 a0_1 a0_2 hz0
  have hsn0 : ¬ (1048576 - (a0_0.size : Int) - (a0_1.size : Int) < 0) := by omega
  obtain ⟨K, r, hA⟩ := IsValidLog_agree a0_0 a0_1 a0_2 (by omega)
  obtain ⟨M, hM⟩ : ∃ M, M = K + 1 := ⟨_, rfl⟩
  have hS : ∀ j, spec_IsValidLog.f (M + j) a0_0 a0_1 a0_2 = some r := fun j => (hA (M + j) (by omega)).1
  have hI : ∀ j, impl_IsValidLog.f (M + j) a0_0 a0_1 a0_2 = some r := fun j => (hA (M + j) (by omega)).2
  clear hA hM
  refine ⟨M + 1, ?_⟩
  simp only [laws_FnExactIsValidLog.f, laws_toLog.f, hsz0, hsn0, hS, hI, obind, if_true, if_false, bne_self_eq_false, Bool.false_eq_true, eq_self]
end Go.Proofs.YtaabfffpknkpeaaDoor.Pure
