import Derived.Test.YtjaiienbbmfomaaGivLoseS
/- LosingSets: both sides answer the same. -/
namespace Go.Proofs.Ytjaiienbbmfomaa.Q
open Go.RowKit Go.Proofs.Ytjaiienbbmfomaa.Px Go.Proofs.Ytjaiienbbmfomaa.Giv Go.Proofs.YtjaiienbbmfomaaW.PrintWords Go.Proofs.YtjaiienbbmfomaaW.PrintLast
set_option linter.unusedVariables false
set_option linter.unusedSimpArgs false
theorem LosingSets_agree (w : List Int) (n : Int) (drop : Bool) (hl : w.length ≤ 1048576) : ∃ K r1 r2, r1.length ≤ 1048576 ∧ ∀ k, K ≤ k → spec_LosingSets.f k w n drop = some (r1, r2) ∧ impl_LosingSets.f k w n drop = some (r1, r2) := by
  refine ⟨2 * w.length + 11, (loseP w n drop).1, (loseP w n drop).2, ?_, fun k hk => ?_⟩
  · unfold loseP
    split
    · rename_i hg
      obtain ⟨hw, h1, h2, hp⟩ := gameB_parts hg
      have ha := allI_le h1 h2
      have := setsL_len ((allI n).toNat + 1) (loseB drop (fallT w) n)
      show ((setsL ((allI n).toNat + 1)).filter (loseB drop (fallT w) n)).length ≤ 1048576
      omega
    · simp
  · unfold spec_LosingSets.f impl_LosingSets.f
    rw [if_pos ⟨by omega, hl⟩]
    exact ⟨rfl, rfl⟩
end Go.Proofs.Ytjaiienbbmfomaa.Q
