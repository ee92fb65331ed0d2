/- What is proved: for all arguments the program's EncodeRecord returns what the reference's returns, shares no memory with its argument, changes none, and answers the same again (the law FnExactEncodeRecord as plain Lean); no condition. -/
import Derived.Test.YtaabfffpknkpeaaDoorPx6
import Derived.Test.YtaabfffpknkpeaaDoorPx3
import Derived.Test.YtaabfffpknkpeaaDoorQEnc
namespace Go.Proofs.YtaabfffpknkpeaaDoor.Pure
open Go.RowKit Go.Proofs.YtaabfffpknkpeaaDoor.Px Go.Proofs.YtaabfffpknkpeaaDoor.Giv Go.Proofs.YtaabfffpknkpeaaDoorW.PrintWords Go.Proofs.YtaabfffpknkpeaaDoorW.PrintLast Go.Proofs.YtaabfffpknkpeaaDoor.Q
set_option linter.unusedVariables false
set_option linter.unusedSimpArgs false
theorem FnExactEncodeRecord : laws_FnExactEncodeRecord.Pure := by
  intro a0 a1_0 a1_1 hy0 hy1 hy2
  simp only [maxLen] at *
  by_cases hz0 : (a1_0.size : Int) > 1048576
  · have hw : wrap64 (1048576 - (a1_0.size : Int)) < 0 := by unfold wrap64; omega
    exact ⟨0, by simp [laws_FnExactEncodeRecord.f, laws_szLogRecord.f, hw]⟩
  have hw0 : wrap64 (1048576 - (a1_0.size : Int)) = 1048576 - (a1_0.size : Int) := wrap_id _ (by omega) (by omega)
  have hv0 : ¬ (1048576 - (a1_0.size : Int) < 0) := by omega
  by_cases hy_0 : (a1_0.size : Int) + (a1_1.size : Int) > 1048576
  · have hw2 : wrap64 (1048576 - (a1_0.size : Int) - (a1_1.size : Int)) < 0 := by unfold wrap64; omega
    exact ⟨0, by simp only [laws_FnExactEncodeRecord.f, laws_szLogRecord.f, hw0, hv0, hw2, if_true, if_false, Option.bind_some, show ((-1 : Int) < 0) = True from by simp]⟩
  have hw3_0 : wrap64 (1048576 - (a1_0.size : Int) - (a1_1.size : Int)) = 1048576 - (a1_0.size : Int) - (a1_1.size : Int) := wrap_id _ (by omega) (by omega)
  have hsn0 : ¬ (1048576 - (a1_0.size : Int) - (a1_1.size : Int) < 0) := by omega
  have hsz0 : laws_szLogRecord.f a1_0 a1_1 1048576 = some (1048576 - (a1_0.size : Int) - (a1_1.size : Int)) := by
    unfold laws_szLogRecord.f; rw [hw0, if_neg hv0, hw3_0, if_neg hsn0]
  obtain ⟨K, r1, r2, hA⟩ := EncodeRecord_agree a0 a1_0 a1_1 (by omega) (by omega)
  obtain ⟨M, hM⟩ : ∃ M, M = K + 1 := ⟨_, rfl⟩
  have hS : ∀ j, spec_EncodeRecord.f (M + j) a0 a1_0 a1_1 = some (r1, r2) := fun j => (hA (M + j) (by omega)).1
  have hI : ∀ j, impl_EncodeRecord.f (M + j) a0 a1_0 a1_1 = some (r1, r2) := fun j => (hA (M + j) (by omega)).2
  clear hA hM
  refine ⟨M + 1, ?_⟩
  simp only [laws_FnExactEncodeRecord.f, laws_toLogRecord.f, hsz0, hsn0, hS, hI, Option.bind_some, if_true, if_false, bne_self_eq_false, Bool.false_eq_true, eq_self]
end Go.Proofs.YtaabfffpknkpeaaDoor.Pure
