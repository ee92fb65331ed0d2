import Derived.Test.YtjaiienbbmfomaaGivKeepS
/- KeepMoves: both sides answer the same. -/
namespace Go.Proofs.Ytjaiienbbmfomaa.Q
open Go.RowKit Go.Proofs.Ytjaiienbbmfomaa.Px Go.Proofs.Ytjaiienbbmfomaa.Giv Go.Proofs.YtjaiienbbmfomaaW.PrintWords Go.Proofs.YtjaiienbbmfomaaW.PrintLast
set_option linter.unusedVariables false
set_option linter.unusedSimpArgs false
theorem keepsL_len (d : Nat) (T : Int → Bool) (n set : Int) : (keepsL d T n set).length ≤ 6 := by
  cases d with
  | zero => simp [keepsL]
  | succ d =>
    unfold keepsL
    exact Nat.le_trans (List.length_filter_le _ _) inL_le
theorem KeepMoves_agree (w : List Int) (n set : Int) (hl : w.length ≤ 1048576) : ∃ K r1 r2, r1.length ≤ 1048576 ∧ ∀ k, K ≤ k → spec_KeepMoves.f k w n set = some (r1, r2) ∧ impl_KeepMoves.f k w n set = some (r1, r2) := by
  refine ⟨2 * w.length + 11, (keepP w n set).1, (keepP w n set).2, ?_, fun k hk => ?_⟩
  · unfold keepP
    split
    · have := keepsL_len 6 (fallT w) n set
      show (keepsL 6 (fallT w) n set).length ≤ 1048576
      omega
    · simp
  · unfold spec_KeepMoves.f impl_KeepMoves.f
    rw [if_pos ⟨by omega, hl⟩]
    exact ⟨rfl, rfl⟩
end Go.Proofs.Ytjaiienbbmfomaa.Q
