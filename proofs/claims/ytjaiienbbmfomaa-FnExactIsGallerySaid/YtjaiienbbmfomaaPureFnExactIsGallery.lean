/- What is proved: for all arguments the program's IsGallery returns what the reference's returns, shares no memory with its argument, changes none, and answers the same again (the law FnExactIsGallery as plain Lean); no condition. -/
import Derived.Test.YtjaiienbbmfomaaPx10
import Derived.Test.YtjaiienbbmfomaaPx1
import Derived.Test.YtjaiienbbmfomaaPx7
import Derived.Test.YtjaiienbbmfomaaPx8
import Derived.Test.YtjaiienbbmfomaaQGal
import Derived.Test.YtjaiienbbmfomaaQInt
namespace Go.Proofs.Ytjaiienbbmfomaa.Pure
open Go.RowKit Go.Proofs.Ytjaiienbbmfomaa.Px Go.Proofs.Ytjaiienbbmfomaa.Giv Go.Proofs.YtjaiienbbmfomaaW.PrintWords Go.Proofs.YtjaiienbbmfomaaW.PrintLast Go.Proofs.Ytjaiienbbmfomaa.Q
set_option linter.unusedVariables false
set_option linter.unusedSimpArgs false
theorem FnExactIsGallery : laws_FnExactIsGallery.Pure := by
  intro l0_0 a0_1 a0_2 hy0 hy1 hy2 hy3
  simp only [maxLen] at *
  by_cases hz : (l0_0.length : Int) > 1048576
  · have hw : wrap64 (1048576 - (l0_0.length : Int)) < 0 := by unfold wrap64; omega
    exact ⟨0, by simp [laws_FnExactIsGallery.f, laws_szGallery.f, laws_szIntS.f, hw]⟩
  have hsn : ¬ (1048576 - (l0_0.length : Int) < 0) := by omega
  have hsz : laws_szGallery.f l0_0 a0_1 a0_2 1048576 = some (1048576 - (l0_0.length : Int)) := by
    have hw : wrap64 (1048576 - (l0_0.length : Int)) = 1048576 - (l0_0.length : Int) := wrap_id _ (by omega) (by omega)
    unfold laws_szGallery.f laws_szIntS.f; rw [hw, if_neg hsn, Option.bind_some, if_neg hsn]
  obtain ⟨K, r, hA⟩ := IsGallery_agree l0_0 a0_1 a0_2 (by omega)
  obtain ⟨M, hM⟩ : ∃ M, M = K + l0_0.length + 1 := ⟨_, rfl⟩
  have hS : ∀ j, spec_IsGallery.f (M + j) l0_0 a0_1 a0_2 = some r := fun j => (hA (M + j) (by omega)).1
  have hI : ∀ j, impl_IsGallery.f (M + j) l0_0 a0_1 a0_2 = some r := fun j => (hA (M + j) (by omega)).2
  have htol0_0 : ∀ j, laws_toIntS.f (M + j) l0_0 = some l0_0 := fun j => toIntS_f l0_0 (by omega) _ (by omega)
  have hel0_0 : ∀ j, laws_eqIntS.f (M + j) l0_0 l0_0 = some true := fun j => eqIntS_f l0_0 (by omega) _ (by omega)
  clear hA hM
  refine ⟨M + 1, ?_⟩
  simp only [laws_FnExactIsGallery.f, laws_toGallery.f, laws_eqGallery.f, hsz, hsn, hS, hI, htol0_0, hel0_0, Option.bind_some, if_true, if_false, bne_self_eq_false, Bool.false_eq_true, eq_self]
end Go.Proofs.Ytjaiienbbmfomaa.Pure
