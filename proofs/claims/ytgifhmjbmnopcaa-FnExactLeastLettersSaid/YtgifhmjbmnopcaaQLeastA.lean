import Derived.Test.YtgifhmjbmnopcaaGivLeastS
/- LeastLetters: both sides answer the same. -/
namespace Go.Proofs.Ytgifhmjbmnopcaa.Q
open Go.RowKit Go.Proofs.Ytgifhmjbmnopcaa.Px Go.Proofs.Ytgifhmjbmnopcaa.Giv Go.Proofs.YtgifhmjbmnopcaaW.PrintWords Go.Proofs.YtgifhmjbmnopcaaW.PrintLast
set_option linter.unusedVariables false
set_option linter.unusedSimpArgs false
theorem LeastLetters_agree (w : List Int) (hl : w.length ≤ 1048576) : ∃ K r1 r2, ∀ k, K ≤ k → spec_LeastLetters.f k w = some (r1, r2) ∧ impl_LeastLetters.f k w = some (r1, r2) := by
  refine ⟨2 * w.length + 11, (leastP w).1, (leastP w).2, fun k hk => ?_⟩
  unfold spec_LeastLetters.f impl_LeastLetters.f
  rw [if_pos ⟨by omega, hl⟩]
  exact ⟨rfl, rfl⟩
end Go.Proofs.Ytgifhmjbmnopcaa.Q
