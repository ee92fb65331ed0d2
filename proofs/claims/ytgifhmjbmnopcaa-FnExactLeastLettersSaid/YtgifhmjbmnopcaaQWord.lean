import Derived.Test.YtgifhmjbmnopcaaPx2
import Derived.Test.YtgifhmjbmnopcaaQInt
import Derived.Test.YtgifhmjbmnopcaaPx3
import Derived.Test.YtgifhmjbmnopcaaGivA
/- Plain facts on words: both sides' test whether a list is a word. -/
namespace Go.Proofs.Ytgifhmjbmnopcaa.Q
open Go.RowKit Go.Proofs.Ytgifhmjbmnopcaa.Px Go.Proofs.Ytgifhmjbmnopcaa.Giv Go.Proofs.YtgifhmjbmnopcaaW.PrintWords Go.Proofs.YtgifhmjbmnopcaaW.PrintLast
set_option linter.unusedVariables false
set_option linter.unusedSimpArgs false
def wordB (l : List Int) : Bool := decide (l.length ≤ 64) && l.all letterB
theorem isWord_f (l : List Int) : impl_isWord.f l = some (wordB l) := rfl
theorem letter_f (x : Int) : spec_l2Letter.f x = some (letterB x) := by
  unfold spec_l2Letter.f spec_l1In.f letterB
  by_cases h0 : x = 0
  · rw [if_pos h0, h0]; rfl
  · rw [if_neg h0]
    by_cases h1 : x ≥ -6
    · rw [if_pos h1]; simp [h0, show (-6 : Int) ≤ x from h1]
    · rw [if_neg h1]; simp [show ¬ (-6 : Int) ≤ x from h1]
theorem word_true (l : List Int) (h : wordB l = true) : l.length ≤ 64 ∧ ∀ x ∈ l, letterB x = true := by
  unfold wordB at h
  simp only [Bool.and_eq_true, decide_eq_true_eq, List.all_eq_true] at h
  exact h
theorem letter_range {x : Int} (h : letterB x = true) : x ≠ 0 ∧ -6 ≤ x ∧ x ≤ 6 := by
  unfold letterB at h
  simp only [Bool.and_eq_true, decide_eq_true_eq, bne_iff_ne] at h
  exact ⟨h.1.1, h.1.2, h.2⟩
theorem rd_mem (l : List Int) (i : Nat) (h : i < l.length) : rd l (i : Int) ∈ l := by rw [rd_get l i h]; exact List.getElem_mem h
theorem l2Word_l0 (l : List Int) (hl : l.length ≤ 35184372088832) : ∀ (d i k : Nat), l.length - i = d → i ≤ l.length → i ≤ 65 → 2 * d + 2 < k → (∀ j : Nat, j < i → letterB (rd l (j : Int)) = true) → spec_l2Word.l0 k l (i : Int) = some (wordB l) := by
  intro d
  induction d with
  | zero =>
    intro i k hd hi h65 hk hg
    obtain ⟨k, rfl⟩ : ∃ m, k = m + 2 := ⟨k - 2, by omega⟩
    simp only [spec_l2Word.l0]
    rw [if_neg (by omega)]
    simp only [spec_l2Word.j1]
    rw [if_neg (by simp)]
    unfold wordB
    have : l.all letterB = true := by
      rw [List.all_eq_true]
      intro x hx
      obtain ⟨j, hj, rfl⟩ := List.getElem_of_mem hx
      rw [← rd_get l j hj]
      exact hg j (by omega)
    rw [this]
    simp
    omega
  | succ d ih =>
    intro i k hd hi h65 hk hg
    obtain ⟨k, rfl⟩ : ∃ m, k = m + 2 := ⟨k - 2, by omega⟩
    simp only [spec_l2Word.l0]
    rw [if_pos (by omega)]
    simp only [spec_l2Word.j1]
    by_cases h64 : (i : Int) ≤ 64
    · rw [if_pos (by simpa using h64), if_pos (by omega), if_pos (by omega), letter_f]
      simp only [Option.bind_some]
      have e : ((i : Int) + 1) = ((i + 1 : Nat) : Int) := by omega
      cases hb : letterB (rd l (i : Int)) with
      | true =>
        rw [if_pos rfl, wrap_id _ (by omega) (by omega), e]
        refine ih (i + 1) k (by omega) (by omega) (by omega) (by omega) ?_
        intro j hj
        by_cases hji : j < i
        · exact hg j hji
        · obtain rfl : j = i := by omega
          exact hb
      | false =>
        rw [if_neg (by simp)]
        have : l.all letterB = false := by
          rw [List.all_eq_false]
          exact ⟨rd l (i : Int), rd_mem l i (by omega), by simp [hb]⟩
        unfold wordB
        rw [this]
        simp
    · rw [if_neg (by simpa using h64)]
      unfold wordB
      have : ¬ l.length ≤ 64 := by omega
      simp [this]
      omega
theorem l2Word_f (l : List Int) (hl : l.length ≤ 35184372088832) (k : Nat) (hk : 2 * l.length + 2 < k) : spec_l2Word.f k l = some (wordB l) := by
  unfold spec_l2Word.f
  exact l2Word_l0 l hl l.length 0 k (by omega) (by omega) (by omega) hk (fun j hj => by omega)
end Go.Proofs.Ytgifhmjbmnopcaa.Q
