import Derived.Test.YtjaiienbbmfomaaPx16
import Derived.Test.YtjaiienbbmfomaaPx15
import Derived.Test.YtjaiienbbmfomaaQTak
/- Plain facts on pictures of galleries. -/
namespace Go.Proofs.Ytjaiienbbmfomaa.Q
open Go.RowKit Go.Proofs.Ytjaiienbbmfomaa.Px Go.Proofs.Ytjaiienbbmfomaa.Giv Go.Proofs.YtjaiienbbmfomaaW.PrintWords Go.Proofs.YtjaiienbbmfomaaW.PrintLast
set_option linter.unusedVariables false
set_option linter.unusedSimpArgs false
theorem galB_parts {w : List Int} {a b : Int} (h : galB w a b = true) : wordB w = true ∧ setB a = true := by
  unfold galB at h
  simp only [Bool.and_eq_true] at h
  exact ⟨h.1.1.1, h.1.2⟩
theorem PictureOf_agree (w : List Int) (a b : Int) (hl : w.length ≤ 1048576) : ∃ K r1 r2, r1.length ≤ 1048576 ∧ ∀ k, K ≤ k → spec_PictureOf.f k w a b = some (r1, r2) ∧ impl_PictureOf.f k w a b = some (r1, r2) := by
  cases hg : galB w a b with
  | false =>
    refine ⟨2 * w.length + 4, [], false, by simp, fun k hk => ?_⟩
    unfold spec_PictureOf.f impl_PictureOf.f
    rw [l12Good_f w a b hl k (by omega), isGallery_f w a b hl k (by omega), hg]
    exact ⟨rfl, rfl⟩
  | true =>
    obtain ⟨hw, hs⟩ := galB_parts hg
    have hh := word_true _ (redW_word (leftL_word (set := a) hw))
    refine ⟨2 * w.length + 4, takW a w, true, by have := hh.1; unfold takW; omega, fun k hk => ?_⟩
    unfold spec_PictureOf.f impl_PictureOf.f
    rw [l12Good_f w a b hl k (by omega), isGallery_f w a b hl k (by omega), hg, Option.bind_some, Option.bind_some, if_pos rfl, if_pos rfl, l3Take_f hw hs k (by omega), taken_f hw hs k (by omega)]
    exact ⟨rfl, rfl⟩
end Go.Proofs.Ytjaiienbbmfomaa.Q
