/- What is proved: for all arguments the program's LeastLetters returns what the reference's returns, shares no memory with its argument, changes none, and answers the same again (the law FnExactLeastLetters as plain Lean); no condition. -/
import Derived.Test.YtgifhmjbmnopcaaPx5
import Derived.Test.YtgifhmjbmnopcaaQLeastA
namespace Go.Proofs.Ytgifhmjbmnopcaa.Pure
open Go.RowKit Go.Proofs.Ytgifhmjbmnopcaa.Px Go.Proofs.Ytgifhmjbmnopcaa.Giv Go.Proofs.YtgifhmjbmnopcaaW.PrintWords Go.Proofs.YtgifhmjbmnopcaaW.PrintLast Go.Proofs.Ytgifhmjbmnopcaa.Q
set_option linter.unusedVariables false
set_option linter.unusedSimpArgs false
theorem FnExactLeastLetters : laws_FnExactLeastLetters.Pure := by
  intro l0 hy0 hy1 hy2
  by_cases hbig0 : (l0.length : Int) > 1048576
  · exact ⟨0, by simp only [laws_FnExactLeastLetters.f, hbig0, if_true, if_false]⟩
  obtain ⟨K, r1, r2, hA⟩ := LeastLetters_agree l0 (by omega)
  obtain ⟨M, hM⟩ : ∃ M, M = K + l0.length + 1 := ⟨_, rfl⟩
  have hS : ∀ j, spec_LeastLetters.f (M + j) l0 = some (r1, r2) := fun j => (hA (M + j) (by omega)).1
  have hI : ∀ j, impl_LeastLetters.f (M + j) l0 = some (r1, r2) := fun j => (hA (M + j) (by omega)).2
  have htol0 : ∀ j, laws_toIntS.f (M + j) l0 = some l0 := fun j => toIntS_f l0 (by omega) _ (by omega)
  have hel0 : ∀ j, laws_eqIntS.f (M + j) l0 l0 = some true := fun j => eqIntS_f l0 (by omega) _ (by omega)
  clear hA hM
  refine ⟨M + 2, ?_⟩
  simp only [laws_FnExactLeastLetters.f, laws_FnExactLeastLetters.j0, hbig0, hS, hI, htol0, hel0, Option.bind_some, if_true, if_false, bne_self_eq_false, Bool.false_eq_true]
end Go.Proofs.Ytgifhmjbmnopcaa.Pure
