/- What is proved: for all arguments the program's LosingSets returns what the reference's returns, shares no memory with its argument, changes none, and answers the same again (the law FnExactLosingSets as plain Lean); no condition. -/
import Derived.Test.YtjaiienbbmfomaaPx29
import Derived.Test.YtjaiienbbmfomaaQLose
namespace Go.Proofs.Ytjaiienbbmfomaa.Pure
open Go.RowKit Go.Proofs.Ytjaiienbbmfomaa.Px Go.Proofs.Ytjaiienbbmfomaa.Giv Go.Proofs.YtjaiienbbmfomaaW.PrintWords Go.Proofs.YtjaiienbbmfomaaW.PrintLast Go.Proofs.Ytjaiienbbmfomaa.Q
set_option linter.unusedVariables false
set_option linter.unusedSimpArgs false
theorem FnExactLosingSets : laws_FnExactLosingSets.Pure := by
  intro l0 a1 a2 hy0 hy1 hy2 hy3
  by_cases hbig0 : (l0.length : Int) > 1048576
  · exact ⟨0, by simp only [laws_FnExactLosingSets.f, hbig0, if_true, if_false]⟩
  obtain ⟨K, r1, r2, hlenr1, hA⟩ := LosingSets_agree l0 a1 a2 (by omega)
  obtain ⟨M, hM⟩ : ∃ M, M = K + l0.length + r1.length + 1 := ⟨_, rfl⟩
  have hS : ∀ j, spec_LosingSets.f (M + j) l0 a1 a2 = some (r1, r2) := fun j => (hA (M + j) (by omega)).1
  have hI : ∀ j, impl_LosingSets.f (M + j) l0 a1 a2 = some (r1, r2) := fun j => (hA (M + j) (by omega)).2
  have htol0 : ∀ j, laws_toIntS.f (M + j) l0 = some l0 := fun j => toIntS_f l0 (by omega) _ (by omega)
  have hel0 : ∀ j, laws_eqIntS.f (M + j) l0 l0 = some true := fun j => eqIntS_f l0 (by omega) _ (by omega)
  have hml0 : ∀ j, laws_markIntS.f (M + j) l0 1 = some ((l0.length : Int) + 1, marks l0.length) := fun j => markIntS_f l0 (by omega) _ (by omega)
  have hhl0 : ∀ j, laws_heldIntS.f (M + j) (marks l0.length) 1 = some ((l0.length : Int) + 1) := fun j => heldIntS_f l0.length (by omega) _ (by omega)
  have hnl0 : ¬ ((l0.length : Int) + 1 < 0) := by omega
  have her1 : ∀ j, laws_eqIntS.f (M + j) r1 r1 = some true := fun j => eqIntS_f r1 (by omega) _ (by omega)
  have hmr1 : ∀ j, laws_markIntS.f (M + j) r1 1 = some ((r1.length : Int) + 1, marks r1.length) := fun j => markIntS_f r1 (by omega) _ (by omega)
  have hhr1 : ∀ j, laws_heldIntS.f (M + j) (marks r1.length) 1 = some ((r1.length : Int) + 1) := fun j => heldIntS_f r1.length (by omega) _ (by omega)
  have hnr1 : ¬ ((r1.length : Int) + 1 < 0) := by omega
  clear hA hM
  refine ⟨M + 4, ?_⟩
  simp only [laws_FnExactLosingSets.f, laws_FnExactLosingSets.j0, laws_FnExactLosingSets.j1, laws_FnExactLosingSets.j2, hbig0, hS, hI, htol0, hel0, hml0, hhl0, hnl0, her1, hmr1, hhr1, hnr1, Option.bind_some, if_true, if_false, bne_self_eq_false, Bool.false_eq_true]
end Go.Proofs.Ytjaiienbbmfomaa.Pure
