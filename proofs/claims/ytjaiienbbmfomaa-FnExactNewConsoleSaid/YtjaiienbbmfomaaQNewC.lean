import Derived.Test.YtjaiienbbmfomaaPx11
import Derived.Test.YtjaiienbbmfomaaQGal
import Derived.Test.YtjaiienbbmfomaaGivK
/- Plain facts on new consoles. -/
namespace Go.Proofs.Ytjaiienbbmfomaa.Q
open Go.RowKit Go.Proofs.Ytjaiienbbmfomaa.Px Go.Proofs.Ytjaiienbbmfomaa.Giv Go.Proofs.YtjaiienbbmfomaaW.PrintWords Go.Proofs.YtjaiienbbmfomaaW.PrintLast
set_option linter.unusedVariables false
set_option linter.unusedSimpArgs false
theorem clone_f (l : List Int) (hl : l.length < 17592186044416) : slices_Clone_int_int.f l = some l := by unfold slices_Clone_int_int.f; rw [if_pos hl]
theorem l1Own_f (l : List Int) (hl : l.length < 17592186044416) : spec_l1Own.f l = some l := by
  unfold spec_l1Own.f
  simp only [Option.bind_some, List.length_nil, Nat.zero_add, List.nil_append]
  rw [if_pos hl]
theorem NewConsole_agree (w : List Int) (a b : Int) (hl : w.length ≤ 1048576) : ∃ K r1 r2 r3 r4 r5 r6 r7, r1.length ≤ 1099511627776 ∧ ∀ k, K ≤ k → spec_NewConsole.f k w a b = some (r1, r2, r3, r4, r5, r6, r7) ∧ impl_NewConsole.f k w a b = some (r1, r2, r3, r4, r5, r6, r7) := by
  cases hb : galB w a b with
  | false =>
    refine ⟨2 * w.length + 4, [], 0, 0, ⟨#[]⟩, ⟨#[]⟩, 0, false, by simp, fun k hk => ?_⟩
    unfold spec_NewConsole.f impl_NewConsole.f
    rw [l12Good_f w a b hl k (by omega), isGallery_f w a b hl k (by omega), hb]
    simp
  | true =>
    refine ⟨2 * w.length + 4, w, a, b, ⟨#[]⟩, ⟨#[]⟩, 0, true, by omega, fun k hk => ?_⟩
    unfold spec_NewConsole.f impl_NewConsole.f spec_l12Own.f
    rw [l12Good_f w a b hl k (by omega), isGallery_f w a b hl k (by omega), hb, Option.bind_some, Option.bind_some, if_pos rfl, if_pos rfl, clone_f w (by omega), l1Own_f w (by omega)]
    exact ⟨rfl, rfl⟩
end Go.Proofs.Ytjaiienbbmfomaa.Q
