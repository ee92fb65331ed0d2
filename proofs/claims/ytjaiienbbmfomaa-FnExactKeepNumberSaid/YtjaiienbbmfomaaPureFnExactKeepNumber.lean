/- What is proved: for all arguments the program's KeepNumber returns what the reference's returns, shares no memory with its argument, changes none, and answers the same again (the law FnExactKeepNumber as plain Lean); no condition. -/
import Derived.Test.YtjaiienbbmfomaaPx28
import Derived.Test.YtjaiienbbmfomaaQKNum
namespace Go.Proofs.Ytjaiienbbmfomaa.Pure
open Go.RowKit Go.Proofs.Ytjaiienbbmfomaa.Px Go.Proofs.Ytjaiienbbmfomaa.Giv Go.Proofs.YtjaiienbbmfomaaW.PrintWords Go.Proofs.YtjaiienbbmfomaaW.PrintLast Go.Proofs.Ytjaiienbbmfomaa.Q
set_option linter.unusedVariables false
set_option linter.unusedSimpArgs false
theorem FnExactKeepNumber : laws_FnExactKeepNumber.Pure := by
  intro l0 a1 a2 hy0 hy1 hy2 hy3 hy4
  by_cases hbig0 : (l0.length : Int) > 1048576
  · exact ⟨0, by simp only [laws_FnExactKeepNumber.f, hbig0, if_true, if_false]⟩
  obtain ⟨K, r1, r2, hA⟩ := KeepNumber_agree l0 a1 a2 (by omega)
  obtain ⟨M, hM⟩ : ∃ M, M = K + l0.length + 1 := ⟨_, rfl⟩
  have hS : ∀ j, spec_KeepNumber.f (M + j) l0 a1 a2 = some (r1, r2) := fun j => (hA (M + j) (by omega)).1
  have hI : ∀ j, impl_KeepNumber.f (M + j) l0 a1 a2 = some (r1, r2) := fun j => (hA (M + j) (by omega)).2
  have htol0 : ∀ j, laws_toIntS.f (M + j) l0 = some l0 := fun j => toIntS_f l0 (by omega) _ (by omega)
  have hel0 : ∀ j, laws_eqIntS.f (M + j) l0 l0 = some true := fun j => eqIntS_f l0 (by omega) _ (by omega)
  clear hA hM
  refine ⟨M + 2, ?_⟩
  simp only [laws_FnExactKeepNumber.f, laws_FnExactKeepNumber.j0, hbig0, hS, hI, htol0, hel0, Option.bind_some, if_true, if_false, bne_self_eq_false, Bool.false_eq_true]
end Go.Proofs.Ytjaiienbbmfomaa.Pure
