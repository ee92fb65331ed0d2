/- What is proved: for all arguments the program's IsValidRecord returns what the reference's returns, shares no memory with its argument, changes none, and answers the same again (the law FnExactIsValidRecord as plain Lean); no condition. -/
import Derived.Test.YtaabfffpknkpeaaPx1
import Derived.Test.YtaabfffpknkpeaaQRec
namespace Go.Proofs.Ytaabfffpknkpeaa.Pure
open Go.RowKit Go.Proofs.Ytaabfffpknkpeaa.Px Go.Proofs.Ytaabfffpknkpeaa.Giv Go.Proofs.YtaabfffpknkpeaaW.PrintWords Go.Proofs.YtaabfffpknkpeaaW.PrintLast Go.Proofs.Ytaabfffpknkpeaa.Q
set_option linter.unusedVariables false
set_option linter.unusedSimpArgs false
theorem FnExactIsValidRecord : laws_FnExactIsValidRecord.Pure := by
  intro a0_0 a0_1 hy0 hy1
  simp only [maxLen] at *
  by_cases hz0 : (a0_0.size : Int) > 1048576
  · have hw : wrap64 (1048576 - (a0_0.size : Int)) < 0 := by unfold wrap64; omega
    exact ⟨0, by simp [laws_FnExactIsValidRecord.f, laws_szLogRecord.f, hw]⟩
  have hw0 : wrap64 (1048576 - (a0_0.size : Int)) = 1048576 - (a0_0.size : Int) := wrap_id _ (by omega) (by omega)
  have hv0 : ¬ (1048576 - (a0_0.size : Int) < 0) := by omega
  by_cases hy_0 : (a0_0.size : Int) + (a0_1.size : Int) > 1048576
  · have hw2 : wrap64 (1048576 - (a0_0.size : Int) - (a0_1.size : Int)) < 0 := by unfold wrap64; omega
    exact ⟨0, by simp only [laws_FnExactIsValidRecord.f, laws_szLogRecord.f, hw0, hv0, hw2, if_true, if_false, Option.bind_some, show ((-1 : Int) < 0) = True from by simp]⟩
  have hw3_0 : wrap64 (1048576 - (a0_0.size : Int) - (a0_1.size : Int)) = 1048576 - (a0_0.size : Int) - (a0_1.size : Int) := wrap_id _ (by omega) (by omega)
  have hsn0 : ¬ (1048576 - (a0_0.size : Int) - (a0_1.size : Int) < 0) := by omega
  have hsz0 : laws_szLogRecord.f a0_0 a0_1 1048576 = some (1048576 - (a0_0.size : Int) - (a0_1.size : Int)) := by
    unfold laws_szLogRecord.f; rw [hw0, if_neg hv0, hw3_0, if_neg hsn0]
  obtain ⟨K, r, hA⟩ := IsValidRecord_agree a0_0 a0_1 (by omega) (by omega)
  obtain ⟨M, hM⟩ : ∃ M, M = K + 1 := ⟨_, rfl⟩
  have hS : ∀ j, spec_IsValidRecord.f (M + j) a0_0 a0_1 = some r := fun j => (hA (M + j) (by omega)).1
  have hI : ∀ j, impl_IsValidRecord.f (M + j) a0_0 a0_1 = some r := fun j => (hA (M + j) (by omega)).2
  clear hA hM
  refine ⟨M + 1, ?_⟩
  simp only [laws_FnExactIsValidRecord.f, laws_toLogRecord.f, hsz0, hsn0, hS, hI, Option.bind_some, if_true, if_false, bne_self_eq_false, Bool.false_eq_true, eq_self]
end Go.Proofs.Ytaabfffpknkpeaa.Pure
