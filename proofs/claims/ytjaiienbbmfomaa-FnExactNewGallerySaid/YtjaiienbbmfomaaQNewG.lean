import Derived.Test.YtjaiienbbmfomaaPx4
import Derived.Test.YtjaiienbbmfomaaPx2
import Derived.Test.YtjaiienbbmfomaaQRed
/- Plain facts on new galleries. -/
namespace Go.Proofs.Ytjaiienbbmfomaa.Q
open Go.RowKit Go.Proofs.Ytjaiienbbmfomaa.Px Go.Proofs.Ytjaiienbbmfomaa.Giv Go.Proofs.YtjaiienbbmfomaaW.PrintWords Go.Proofs.YtjaiienbbmfomaaW.PrintLast
set_option linter.unusedVariables false
set_option linter.unusedSimpArgs false
theorem NewGallery_agree (l0 : List Int) (hl : l0.length ≤ 1048576) : ∃ K r1 r2 r3 r4, r1.length ≤ 1099511627776 ∧ ∀ k, K ≤ k → spec_NewGallery.f k l0 = some (r1, r2, r3, r4) ∧ impl_NewGallery.f k l0 = some (r1, r2, r3, r4) := by
  cases hb : wordB l0 with
  | false =>
    refine ⟨2 * l0.length + 3, [], 0, 0, false, by simp, fun k hk => ?_⟩
    unfold spec_NewGallery.f impl_NewGallery.f
    rw [l2Word_f l0 (by omega) k (by omega), isWord_f, hb]
    simp
  | true =>
    have hr := word_true _ (redW_word hb)
    refine ⟨2 * l0.length + 3, redW l0, 0, 0, true, by omega, fun k hk => ?_⟩
    unfold spec_NewGallery.f impl_NewGallery.f
    rw [l2Word_f l0 (by omega) k (by omega), isWord_f, hb, Option.bind_some, Option.bind_some, if_pos rfl, if_pos rfl, l2Reduce_f hb k (by omega), reduced_f hb k (by omega)]
    exact ⟨rfl, rfl⟩
end Go.Proofs.Ytjaiienbbmfomaa.Q
