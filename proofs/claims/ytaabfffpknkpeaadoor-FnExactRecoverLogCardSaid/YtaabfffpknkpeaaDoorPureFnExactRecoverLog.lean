/- What is proved: for all arguments the program's RecoverLog returns what the reference's returns, shares no memory with its argument, changes none, and answers the same again (the law FnExactRecoverLog as plain Lean); no condition. -/
import Derived.Test.YtaabfffpknkpeaaDoorPx13
import Derived.Test.YtaabfffpknkpeaaDoorPx12
import Derived.Test.YtaabfffpknkpeaaDoorQLogR
namespace Go.Proofs.YtaabfffpknkpeaaDoor.Pure
open Go.RowKit Go.Proofs.YtaabfffpknkpeaaDoor.Px Go.Proofs.YtaabfffpknkpeaaDoor.Giv Go.Proofs.YtaabfffpknkpeaaDoorW.PrintWords Go.Proofs.YtaabfffpknkpeaaDoorW.PrintLast Go.Proofs.YtaabfffpknkpeaaDoor.Q
set_option linter.unusedVariables false
set_option linter.unusedSimpArgs false
theorem obind {A B : Type} (a : A) (f : A → Option B) : (some a).bind f = f a := Eq.trans (Option.bind_some a f) rfl
theorem FnExactRecoverLog : laws_FnExactRecoverLog.Pure := by
  intro a0 hy0
  simp only [maxLen] at *
  by_cases hbigs0 : (a0.size : Int) > 1048576
  · exact ⟨0, by simp only [laws_FnExactRecoverLog.f, hbigs0, if_true, if_false]⟩
  obtain ⟨K, r1, r2, r3, r4, r5, hA⟩ := RecoverLog_agree a0 (by omega)
  obtain ⟨M, hM⟩ : ∃ M, M = K + 1 := ⟨_, rfl⟩
  have hS : ∀ j, spec_RecoverLog.f (M + j) a0 = some (r1, r2, r3, r4, r5) := fun j => (hA (M + j) (by omega)).1
  have hI : ∀ j, impl_RecoverLog.f (M + j) a0 = some (r1, r2, r3, r4, r5) := fun j => (hA (M + j) (by omega)).2
  clear hA hM
  refine ⟨M + 1, ?_⟩
  simp only [laws_FnExactRecoverLog.f, laws_eqLog.f, hbigs0, hS, hI, obind, if_true, if_false, bne_self_eq_false, Bool.false_eq_true, eq_self]
end Go.Proofs.YtaabfffpknkpeaaDoor.Pure
