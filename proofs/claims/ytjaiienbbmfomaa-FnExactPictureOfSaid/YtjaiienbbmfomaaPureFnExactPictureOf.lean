/- What is proved: for all arguments the program's PictureOf returns what the reference's returns, shares no memory with its argument, changes none, and answers the same again (the law FnExactPictureOf as plain Lean); no condition. -/
import Derived.Test.YtjaiienbbmfomaaPx17
import Derived.Test.YtjaiienbbmfomaaPx1
import Derived.Test.YtjaiienbbmfomaaPx10
import Derived.Test.YtjaiienbbmfomaaPx6
import Derived.Test.YtjaiienbbmfomaaPx9
import Derived.Test.YtjaiienbbmfomaaQPic
namespace Go.Proofs.Ytjaiienbbmfomaa.Pure
open Go.RowKit Go.Proofs.Ytjaiienbbmfomaa.Px Go.Proofs.Ytjaiienbbmfomaa.Giv Go.Proofs.YtjaiienbbmfomaaW.PrintWords Go.Proofs.YtjaiienbbmfomaaW.PrintLast Go.Proofs.Ytjaiienbbmfomaa.Q
set_option linter.unusedVariables false
set_option linter.unusedSimpArgs false
theorem obind {A B : Type} (a : A) (f : A → Option B) : (some a).bind f = f a := Eq.trans (Option.bind_some a f) rfl
theorem FnExactPictureOf : laws_FnExactPictureOf.Pure := by
  intro l0_0 a0_1 a0_2 hy0 hy1 hy2 hy3
  simp only [maxLen] at *
  by_cases hz : (l0_0.length : Int) > 1048576
  · have hw : wrap64 (1048576 - (l0_0.length : Int)) < 0 := by unfold wrap64; omega
    exact ⟨0, by simp [laws_FnExactPictureOf.f, laws_szGallery.f, laws_szIntS.f, hw]⟩
  have hsn : ¬ (1048576 - (l0_0.length : Int) < 0) := by omega
  have hsz : laws_szGallery.f l0_0 a0_1 a0_2 1048576 = some (1048576 - (l0_0.length : Int)) := by
    have hw : wrap64 (1048576 - (l0_0.length : Int)) = 1048576 - (l0_0.length : Int) := wrap_id _ (by omega) (by omega)
    unfold laws_szGallery.f laws_szIntS.f; rw [hw, if_neg hsn, Option.bind_some, if_neg hsn]
  obtain ⟨K, r1, r2, hlenr1, hA⟩ := PictureOf_agree l0_0 a0_1 a0_2 (by omega)
  obtain ⟨M, hM⟩ : ∃ M, M = K + l0_0.length + r1.length + 1 := ⟨_, rfl⟩
  have hS : ∀ j, spec_PictureOf.f (M + j) l0_0 a0_1 a0_2 = some (r1, r2) := fun j => (hA (M + j) (by omega)).1
  have hI : ∀ j, impl_PictureOf.f (M + j) l0_0 a0_1 a0_2 = some (r1, r2) := fun j => (hA (M + j) (by omega)).2
  have htol0_0 : ∀ j, laws_toIntS.f (M + j) l0_0 = some l0_0 := fun j => toIntS_f l0_0 (by omega) _ (by omega)
  have hel0_0 : ∀ j, laws_eqIntS.f (M + j) l0_0 l0_0 = some true := fun j => eqIntS_f l0_0 (by omega) _ (by omega)
  have hml0_0 : ∀ j, laws_markIntS.f (M + j) l0_0 1 = some ((l0_0.length : Int) + 1, marks l0_0.length) := fun j => markIntS_f l0_0 (by omega) _ (by omega)
  have hhl0_0 : ∀ j, laws_heldIntS.f (M + j) (marks l0_0.length) 1 = some ((l0_0.length : Int) + 1) := fun j => heldIntS_f l0_0.length (by omega) _ (by omega)
  have hnl0_0 : ¬ ((l0_0.length : Int) + 1 < 0) := by omega
  have her1 : ∀ j, laws_eqIntS.f (M + j) r1 r1 = some true := fun j => eqIntS_f r1 (by omega) _ (by omega)
  have hmr1 : ∀ j, laws_markIntS.f (M + j) r1 1 = some ((r1.length : Int) + 1, marks r1.length) := fun j => markIntS_f r1 (by omega) _ (by omega)
  have hhr1 : ∀ j, laws_heldIntS.f (M + j) (marks r1.length) 1 = some ((r1.length : Int) + 1) := fun j => heldIntS_f r1.length (by omega) _ (by omega)
  have hnr1 : ¬ ((r1.length : Int) + 1 < 0) := by omega
  clear hA hM
  refine ⟨M + 4, ?_⟩
  simp only [laws_FnExactPictureOf.f, laws_FnExactPictureOf.j0, laws_FnExactPictureOf.j1, laws_FnExactPictureOf.j2, laws_toGallery.f, laws_eqGallery.f, laws_markGallery.f, hsz, hsn, hS, hI, htol0_0, hel0_0, hml0_0, hhl0_0, hnl0_0, her1, hmr1, hhr1, hnr1, obind, if_true, if_false, bne_self_eq_false, Bool.false_eq_true, eq_self]
end Go.Proofs.Ytjaiienbbmfomaa.Pure
