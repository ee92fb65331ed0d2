/- What is proved: for all arguments the program's FreeCorners returns what the reference's returns, shares no memory with its argument, changes none, and answers the same again (the law FnExactFreeCorners as plain Lean); no condition. -/
import Derived.Test.YtckmmpknaengjaaDoorPx24
import Derived.Test.YtckmmpknaengjaaDoorQCorner
import Derived.Test.YtckmmpknaengjaaDoorQgInt
namespace Go.Proofs.YtckmmpknaengjaaDoor.Pure
open Go.RowKit Go.Proofs.YtckmmpknaengjaaDoor.Px Go.Proofs.YtckmmpknaengjaaDoor.Giv Go.Proofs.YtckmmpknaengjaaDoorW.PrintWords Go.Proofs.YtckmmpknaengjaaDoorW.PrintLast Go.Proofs.YtckmmpknaengjaaDoor.Q Go.Proofs.YtckmmpknaengjaaDoor.QG
set_option linter.unusedVariables false
set_option linter.unusedSimpArgs false
theorem obind {A B : Type} (a : A) (f : A → Option B) : (some a).bind f = f a := Eq.trans (Option.bind_some a f) rfl
theorem FnExactFreeCorners : laws_FnExactFreeCorners.Pure := by
  intro a0 hy0
  simp only [maxLen] at *
  by_cases hbigs0 : (a0.size : Int) > 1048576
  · exact ⟨0, by simp only [laws_FnExactFreeCorners.f, hbigs0, if_true, if_false]⟩
  obtain ⟨K, r1, r2, hlenr1, hA⟩ := FreeCorners_agree a0 (by omega)
  obtain ⟨M, hM⟩ : ∃ M, M = K + r1.length + 1 := ⟨_, rfl⟩
  have hS : ∀ j, spec_FreeCorners.f (M + j) a0 = some (r1, r2) := fun j => (hA (M + j) (by omega)).1
  have hI : ∀ j, impl_FreeCorners.f (M + j) a0 = some (r1, r2) := fun j => (hA (M + j) (by omega)).2
  have her1 : ∀ j, laws_eqIntS.f (M + j) r1 r1 = some true := fun j => eqIntS_f r1 (by omega) _ (by omega)
  have hmr1 : ∀ j, laws_markIntS.f (M + j) r1 1 = some ((r1.length : Int) + 1, marks r1.length) := fun j => markIntS_f r1 (by omega) _ (by omega)
  have hhr1 : ∀ j, laws_heldIntS.f (M + j) (marks r1.length) 1 = some ((r1.length : Int) + 1) := fun j => heldIntS_f r1.length (by omega) _ (by omega)
  have hnr1 : ¬ ((r1.length : Int) + 1 < 0) := by omega
  clear hA hM
  refine ⟨M + 3, ?_⟩
  simp only [laws_FnExactFreeCorners.f, laws_FnExactFreeCorners.j0, laws_FnExactFreeCorners.j1, hbigs0, hS, hI, her1, hmr1, hhr1, hnr1, obind, if_true, if_false, bne_self_eq_false, Bool.false_eq_true, eq_self]
end Go.Proofs.YtckmmpknaengjaaDoor.Pure
