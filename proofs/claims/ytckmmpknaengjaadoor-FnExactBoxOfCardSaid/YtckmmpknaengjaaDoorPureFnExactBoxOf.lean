/- What is proved: for all arguments the program's BoxOf returns what the reference's returns, shares no memory with its argument, changes none, and answers the same again (the law FnExactBoxOf as plain Lean); no condition. -/
import Derived.Test.YtckmmpknaengjaaDoorPx12
import Derived.Test.YtckmmpknaengjaaDoorQBox
namespace Go.Proofs.YtckmmpknaengjaaDoor.Pure
open Go.RowKit Go.Proofs.YtckmmpknaengjaaDoor.Px Go.Proofs.YtckmmpknaengjaaDoor.Giv Go.Proofs.YtckmmpknaengjaaDoorW.PrintWords Go.Proofs.YtckmmpknaengjaaDoorW.PrintLast Go.Proofs.YtckmmpknaengjaaDoor.Q
set_option linter.unusedVariables false
set_option linter.unusedSimpArgs false
theorem obind {A B : Type} (a : A) (f : A → Option B) : (some a).bind f = f a := Eq.trans (Option.bind_some a f) rfl
theorem FnExactBoxOf : laws_FnExactBoxOf.Pure := by
  intro a0 hy0
  simp only [maxLen] at *
  by_cases hbigs0 : (a0.size : Int) > 1048576
  · exact ⟨0, by simp only [laws_FnExactBoxOf.f, hbigs0, if_true, if_false]⟩
  obtain ⟨K, r1, r2, r3, r4, r5, hA⟩ := BoxOf_agree a0 (by omega)
  obtain ⟨M, hM⟩ : ∃ M, M = K + 1 := ⟨_, rfl⟩
  have hS : ∀ j, spec_BoxOf.f (M + j) a0 = some (r1, r2, r3, r4, r5) := fun j => (hA (M + j) (by omega)).1
  have hI : ∀ j, impl_BoxOf.f (M + j) a0 = some (r1, r2, r3, r4, r5) := fun j => (hA (M + j) (by omega)).2
  have hea : laws_eqIntA4.f r1 r2 r3 r4 r1 r2 r3 r4 = some true := by unfold laws_eqIntA4.f; simp
  clear hA hM
  refine ⟨M + 1, ?_⟩
  simp only [laws_FnExactBoxOf.f, hbigs0, hS, hI, hea, obind, if_true, if_false, bne_self_eq_false, Bool.false_eq_true, eq_self]
end Go.Proofs.YtckmmpknaengjaaDoor.Pure
