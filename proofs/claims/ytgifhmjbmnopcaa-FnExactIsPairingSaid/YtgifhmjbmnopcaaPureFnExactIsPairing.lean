/- What is proved: for all arguments the program's IsPairing returns what the reference's returns, shares no memory with its argument, changes none, and answers the same again (the law FnExactIsPairing as plain Lean); no condition. -/
import Derived.Test.YtgifhmjbmnopcaaPx22
import Derived.Test.YtgifhmjbmnopcaaQPair
import Derived.Test.YtgifhmjbmnopcaaQInt
namespace Go.Proofs.Ytgifhmjbmnopcaa.Pure
open Go.RowKit Go.Proofs.Ytgifhmjbmnopcaa.Px Go.Proofs.Ytgifhmjbmnopcaa.Giv Go.Proofs.YtgifhmjbmnopcaaW.PrintWords Go.Proofs.YtgifhmjbmnopcaaW.PrintLast Go.Proofs.Ytgifhmjbmnopcaa.Q
set_option linter.unusedVariables false
set_option linter.unusedSimpArgs false
theorem FnExactIsPairing : laws_FnExactIsPairing.Pure := by
  intro l0 l1 hy0 hy1 hy2 hy3 hy4 hy5
  by_cases hbig0 : (l0.length : Int) > 1048576
  · exact ⟨0, by simp only [laws_FnExactIsPairing.f, hbig0, if_true, if_false]⟩
  by_cases hbig1 : (l1.length : Int) > 1048576
  · exact ⟨0, by simp only [laws_FnExactIsPairing.f, hbig0, hbig1, if_true, if_false]⟩
  obtain ⟨K, r1, r2, hA⟩ := IsPairing_agree l0 l1 (by omega) (by omega)
  obtain ⟨M, hM⟩ : ∃ M, M = K + l0.length + l1.length + 1 := ⟨_, rfl⟩
  have hS : ∀ j, spec_IsPairing.f (M + j) l0 l1 = some (r1, r2) := fun j => (hA (M + j) (by omega)).1
  have hI : ∀ j, impl_IsPairing.f (M + j) l0 l1 = some (r1, r2) := fun j => (hA (M + j) (by omega)).2
  have htol0 : ∀ j, laws_toIntS.f (M + j) l0 = some l0 := fun j => toIntS_f l0 (by omega) _ (by omega)
  have htol1 : ∀ j, laws_toIntS.f (M + j) l1 = some l1 := fun j => toIntS_f l1 (by omega) _ (by omega)
  have hel0 : ∀ j, laws_eqIntS.f (M + j) l0 l0 = some true := fun j => eqIntS_f l0 (by omega) _ (by omega)
  have hel1 : ∀ j, laws_eqIntS.f (M + j) l1 l1 = some true := fun j => eqIntS_f l1 (by omega) _ (by omega)
  clear hA hM
  refine ⟨M + 2, ?_⟩
  simp only [laws_FnExactIsPairing.f, laws_FnExactIsPairing.j0, hbig0, hbig1, hS, hI, htol0, htol1, hel0, hel1, Option.bind_some, if_true, if_false, bne_self_eq_false, Bool.false_eq_true]
end Go.Proofs.Ytgifhmjbmnopcaa.Pure
