/- What is proved: for all arguments the program's TurnsAround returns what the reference's returns, shares no memory with its argument, changes none, and answers the same again (the law FnExactTurnsAround as plain Lean); no condition. -/
import Derived.Test.YtckmmpknaengjaaDoorPx23
import Derived.Test.YtckmmpknaengjaaDoorQPathW
namespace Go.Proofs.YtckmmpknaengjaaDoor.Pure
open Go.RowKit Go.Proofs.YtckmmpknaengjaaDoor.Px Go.Proofs.YtckmmpknaengjaaDoor.Giv Go.Proofs.YtckmmpknaengjaaDoorW.PrintWords Go.Proofs.YtckmmpknaengjaaDoorW.PrintLast Go.Proofs.YtckmmpknaengjaaDoor.Q
set_option linter.unusedVariables false
set_option linter.unusedSimpArgs false
theorem FnExactTurnsAround : laws_FnExactTurnsAround.Pure := by
  intro a0 a1 hy0 hy1
  simp only [maxLen] at *
  by_cases hbigs0 : (a0.size : Int) > 1048576
  · exact ⟨0, by simp only [laws_FnExactTurnsAround.f, hbigs0, if_true, if_false]⟩
  obtain ⟨K, r1, r2, hA⟩ := TurnsAround_agree a0 a1 (by omega)
  obtain ⟨M, hM⟩ : ∃ M, M = K + 1 := ⟨_, rfl⟩
  have hS : ∀ j, spec_TurnsAround.f (M + j) a0 a1 = some (r1, r2) := fun j => (hA (M + j) (by omega)).1
  have hI : ∀ j, impl_TurnsAround.f (M + j) a0 a1 = some (r1, r2) := fun j => (hA (M + j) (by omega)).2
  clear hA hM
  refine ⟨M + 1, ?_⟩
  simp only [laws_FnExactTurnsAround.f, hbigs0, hS, hI, Option.bind_some, if_true, if_false, bne_self_eq_false, Bool.false_eq_true, eq_self]
end Go.Proofs.YtckmmpknaengjaaDoor.Pure
