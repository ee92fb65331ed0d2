import Derived.Test.YtjaiienbbmfomaaGivNumS
/- KeepNumber: both sides answer the same. -/
namespace Go.Proofs.Ytjaiienbbmfomaa.Q
open Go.RowKit Go.Proofs.Ytjaiienbbmfomaa.Px Go.Proofs.Ytjaiienbbmfomaa.Giv Go.Proofs.YtjaiienbbmfomaaW.PrintWords Go.Proofs.YtjaiienbbmfomaaW.PrintLast
set_option linter.unusedVariables false
set_option linter.unusedSimpArgs false
theorem KeepNumber_agree (w : List Int) (n set : Int) (hl : w.length ≤ 1048576) : ∃ K r1 r2, ∀ k, K ≤ k → spec_KeepNumber.f k w n set = some (r1, r2) ∧ impl_KeepNumber.f k w n set = some (r1, r2) := by
  refine ⟨2 * w.length + 11, (numP w n set).1, (numP w n set).2, fun k hk => ?_⟩
  unfold spec_KeepNumber.f impl_KeepNumber.f
  rw [if_pos ⟨by omega, hl⟩]
  exact ⟨rfl, rfl⟩
end Go.Proofs.Ytjaiienbbmfomaa.Q
