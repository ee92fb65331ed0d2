/- What is proved: for all arguments the program's ReadPath returns what the reference's returns, shares no memory with its argument, changes none, and answers the same again (the law FnExactReadPath as plain Lean); no condition. -/
import Derived.Test.YtmofnodjnjgbdaaDoorPx4
import Derived.Test.YtmofnodjnjgbdaaDoorQReadQ
namespace Go.Proofs.YtmofnodjnjgbdaaDoor.Pure
open Go.RowKit Go.Proofs.YtmofnodjnjgbdaaDoor.Px Go.Proofs.YtmofnodjnjgbdaaDoor.Giv Go.Proofs.YtmofnodjnjgbdaaDoorW.PrintWords Go.Proofs.YtmofnodjnjgbdaaDoorW.PrintLast Go.Proofs.YtmofnodjnjgbdaaDoor.Q
set_option linter.unusedVariables false
set_option linter.unusedSimpArgs false
theorem FnExactReadPath : laws_FnExactReadPath.Pure := by
  intro a0 hy0
  simp only [maxLen] at *
  by_cases hbigs0 : (a0.size : Int) > 1048576
  · exact ⟨0, by simp only [laws_FnExactReadPath.f, hbigs0, if_true, if_false]⟩
  obtain ⟨K, r1, r2, hlenr1, hA⟩ := ReadPath_agree a0 (by omega)
  obtain ⟨M, hM⟩ : ∃ M, M = K + r1.length + 1 := ⟨_, rfl⟩
  have hS : ∀ j, spec_ReadPath.f (M + j) a0 = some (r1, r2) := fun j => (hA (M + j) (by omega)).1
  have hI : ∀ j, impl_ReadPath.f (M + j) a0 = some (r1, r2) := fun j => (hA (M + j) (by omega)).2
  have her1 : ∀ j, laws_eqIntS.f (M + j) r1 r1 = some true := fun j => eqIntS_f r1 (by omega) _ (by omega)
  have hmr1 : ∀ j, laws_markIntS.f (M + j) r1 1 = some ((r1.length : Int) + 1, marks r1.length) := fun j => markIntS_f r1 (by omega) _ (by omega)
  have hhr1 : ∀ j, laws_heldIntS.f (M + j) (marks r1.length) 1 = some ((r1.length : Int) + 1) := fun j => heldIntS_f r1.length (by omega) _ (by omega)
  have hnr1 : ¬ ((r1.length : Int) + 1 < 0) := by omega
  clear hA hM
  refine ⟨M + 3, ?_⟩
  simp only [laws_FnExactReadPath.f, laws_FnExactReadPath.j0, laws_FnExactReadPath.j1, hbigs0, hS, hI, her1, hmr1, hhr1, hnr1, Option.bind_some, if_true, if_false, bne_self_eq_false, Bool.false_eq_true, eq_self]
end Go.Proofs.YtmofnodjnjgbdaaDoor.Pure
