import Derived.Test.YtgifhmjbmnopcaaPx6
import Derived.Test.YtgifhmjbmnopcaaQCut
import Derived.Test.YtgifhmjbmnopcaaPx24
/- Plain facts on the proofs in which each cut is the first one, or the last one. -/
namespace Go.Proofs.Ytgifhmjbmnopcaa.Q
open Go.RowKit Go.Proofs.Ytgifhmjbmnopcaa.Px Go.Proofs.Ytgifhmjbmnopcaa.Giv Go.Proofs.YtgifhmjbmnopcaaW.PrintWords Go.Proofs.YtgifhmjbmnopcaaW.PrintLast
set_option linter.unusedVariables false
set_option linter.unusedSimpArgs false
theorem mem_cuts {w : List Int} {x : Int} (h : x ∈ cuts w) : ∃ j : Nat, x = (j : Int) ∧ isCutB w j = true ∧ j + 2 ≤ w.length := by
  unfold cuts cutsTo at h
  rw [List.mem_map] at h
  obtain ⟨j, hj, rfl⟩ := h
  rw [List.mem_filter] at hj
  exact ⟨j, rfl, hj.2, isCutB_bound hj.2⟩
theorem CutsOf_w (w : List Int) (k : Nat) (hk : w.length < k) (hs : w.length < 17592186044416) (hw : wordB w = true) : impl_CutsOf.f k w = some (cuts w, true) := by
  rw [CutsOf_f w k hk hs, hw]; rfl
theorem wordB_cut {w : List Int} (h : wordB w = true) (i : Nat) : wordB (cutL w i) = true := by
  obtain ⟨h1, h2⟩ := word_true w h
  unfold wordB cutL
  simp only [Bool.and_eq_true, decide_eq_true_eq, List.all_eq_true]
  refine ⟨by rw [List.length_append, List.length_take, List.length_drop]; omega, fun x hx => ?_⟩
  rcases List.mem_append.1 hx with hx | hx
  · exact h2 x (List.mem_of_mem_take hx)
  · exact h2 x (List.mem_of_mem_drop hx)
end Go.Proofs.Ytgifhmjbmnopcaa.Q
