/- What is proved: for all arguments the program's LoopPath returns what the reference's returns, shares no memory with its argument, changes none, and answers the same again (the law FnExactLoopPath as plain Lean); no condition. -/
import Derived.Test.YtckmmpknaengjaaPx2
import Derived.Test.YtckmmpknaengjaaQLoop
namespace Go.Proofs.Ytckmmpknaengjaa.Pure
open Go.RowKit Go.Proofs.Ytckmmpknaengjaa.Px Go.Proofs.Ytckmmpknaengjaa.Giv Go.Proofs.YtckmmpknaengjaaW.PrintWords Go.Proofs.YtckmmpknaengjaaW.PrintLast Go.Proofs.Ytckmmpknaengjaa.Q
set_option linter.unusedVariables false
set_option linter.unusedSimpArgs false
theorem obind {A B : Type} (a : A) (f : A → Option B) : (some a).bind f = f a := Eq.trans (Option.bind_some a f) rfl
theorem FnExactLoopPath : laws_FnExactLoopPath.Pure := by
  intro l0 hy0 hy1 hy2
  simp only [maxLen] at *
  by_cases hbig0 : (l0.length : Int) > 1048576
  · exact ⟨0, by simp only [laws_FnExactLoopPath.f, hbig0, if_true, if_false]⟩
  obtain ⟨K, r1, r2, hA⟩ := LoopPath_agree l0 (by omega)
  obtain ⟨M, hM⟩ : ∃ M, M = K + l0.length + 1 := ⟨_, rfl⟩
  have hS : ∀ j, spec_LoopPath.f (M + j) l0 = some (r1, r2) := fun j => (hA (M + j) (by omega)).1
  have hI : ∀ j, impl_LoopPath.f (M + j) l0 = some (r1, r2) := fun j => (hA (M + j) (by omega)).2
  have htol0 : ∀ j, laws_toIntS.f (M + j) l0 = some l0 := fun j => toIntS_f l0 (by omega) _ (by omega)
  have hel0 : ∀ j, laws_eqIntS.f (M + j) l0 l0 = some true := fun j => eqIntS_f l0 (by omega) _ (by omega)
  clear hA hM
  refine ⟨M + 2, ?_⟩
  simp only [laws_FnExactLoopPath.f, laws_FnExactLoopPath.j0, hbig0, hS, hI, htol0, hel0, obind, if_true, if_false, bne_self_eq_false, Bool.false_eq_true, eq_self]
end Go.Proofs.Ytckmmpknaengjaa.Pure
