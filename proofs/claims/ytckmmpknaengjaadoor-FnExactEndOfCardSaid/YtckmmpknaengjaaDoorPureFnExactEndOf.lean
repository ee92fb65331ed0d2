/- What is proved: for all arguments the program's EndOf returns what the reference's returns, shares no memory with its argument, changes none, and answers the same again (the law FnExactEndOf as plain Lean); no condition. -/
import Derived.Test.YtckmmpknaengjaaDoorPx7
import Derived.Test.YtckmmpknaengjaaDoorQPathB
namespace Go.Proofs.YtckmmpknaengjaaDoor.Pure
open Go.RowKit Go.Proofs.YtckmmpknaengjaaDoor.Px Go.Proofs.YtckmmpknaengjaaDoor.Giv Go.Proofs.YtckmmpknaengjaaDoorW.PrintWords Go.Proofs.YtckmmpknaengjaaDoorW.PrintLast Go.Proofs.YtckmmpknaengjaaDoor.Q
set_option linter.unusedVariables false
set_option linter.unusedSimpArgs false
theorem FnExactEndOf : laws_FnExactEndOf.Pure := by
  intro a0 hy0
  simp only [maxLen] at *
  by_cases hbigs0 : (a0.size : Int) > 1048576
  · exact ⟨0, by simp only [laws_FnExactEndOf.f, hbigs0, if_true, if_false]⟩
  obtain ⟨K, r1, r2, r3, hA⟩ := EndOf_agree a0 (by omega)
  obtain ⟨M, hM⟩ : ∃ M, M = K + 1 := ⟨_, rfl⟩
  have hS : ∀ j, spec_EndOf.f (M + j) a0 = some (r1, r2, r3) := fun j => (hA (M + j) (by omega)).1
  have hI : ∀ j, impl_EndOf.f (M + j) a0 = some (r1, r2, r3) := fun j => (hA (M + j) (by omega)).2
  have hea : laws_eqIntA2.f r1 r2 r1 r2 = some true := by unfold laws_eqIntA2.f; simp
  clear hA hM
  refine ⟨M + 1, ?_⟩
  simp only [laws_FnExactEndOf.f, hbigs0, hS, hI, hea, Option.bind_some, if_true, if_false, bne_self_eq_false, Bool.false_eq_true, eq_self]
end Go.Proofs.YtckmmpknaengjaaDoor.Pure
