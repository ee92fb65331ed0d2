import Derived.Test.YtgifhmjbmnopcaaPx2
import Derived.Test.YtgifhmjbmnopcaaQWord
/- Plain facts on words that are reduced. -/
namespace Go.Proofs.Ytgifhmjbmnopcaa.Q
open Go.RowKit Go.Proofs.Ytgifhmjbmnopcaa.Px Go.Proofs.Ytgifhmjbmnopcaa.Giv Go.Proofs.YtgifhmjbmnopcaaW.PrintWords Go.Proofs.YtgifhmjbmnopcaaW.PrintLast
set_option linter.unusedVariables false
set_option linter.unusedSimpArgs false
theorem dropc (l : List Int) (i : Nat) (h : i < l.length) : l.drop i = rd l (i : Int) :: l.drop (i + 1) := by
  rw [rd_get l i h]; exact List.drop_eq_getElem_cons h
/-- A stack takes up letters. -/
def redL : List Int → List Int → List Int
  | st, [] => st
  | st, x :: rest => if st ≠ [] ∧ rd st ((st.length - 1 : Nat) : Int) = - x then redL st.dropLast rest else redL (st ++ [x]) rest
theorem redL_length : ∀ (r st : List Int), (redL st r).length ≤ st.length + r.length
  | [], st => by simp [redL]
  | x :: r, st => by
    simp only [redL]
    split
    · have := redL_length r st.dropLast
      rw [List.length_dropLast] at this
      simp only [List.length_cons]
      omega
    · have := redL_length r (st ++ [x])
      rw [List.length_append, List.length_singleton] at this
      simp only [List.length_cons]
      omega
theorem redL_letters : ∀ (r st : List Int), (∀ x ∈ st, letterB x = true) → (∀ x ∈ r, letterB x = true) → ∀ x ∈ redL st r, letterB x = true
  | [], st, h, _ => by simpa [redL] using h
  | x :: r, st, h, hr => by
    simp only [redL]
    split
    · exact redL_letters r _ (fun y hy => h y (List.mem_of_mem_take (by rw [List.dropLast_eq_take] at hy; exact hy))) (fun y hy => hr y (by simp [hy]))
    · refine redL_letters r _ (fun y hy => ?_) (fun y hy => hr y (by simp [hy]))
      rw [List.mem_append] at hy
      rcases hy with hy | hy
      · exact h y hy
      · simp at hy; rw [hy]; exact hr x (by simp)
/-- What a word is reduced to. -/
def redW (w : List Int) : List Int := redL [] w
theorem redW_word {w : List Int} (hb : wordB w = true) : wordB (redW w) = true := by
  have h := word_true w hb
  have hl := redL_length w []
  unfold wordB redW
  simp only [Bool.and_eq_true, decide_eq_true_eq, List.all_eq_true]
  refine ⟨by simp at hl; omega, redL_letters w [] (by simp) h.2⟩
theorem neg_w {w : List Int} (hw : ∀ x ∈ w, letterB x = true) (i : Nat) (hi : i < w.length) : wrap64 (-(rd w (i : Int))) = - rd w (i : Int) := by
  have h := letter_range (hw _ (rd_mem w i hi))
  exact wrap_id _ (by omega) (by omega)
theorem spec_red_l0 (w : List Int) (hw : ∀ x ∈ w, letterB x = true) (hl : w.length ≤ 1099511627776) : ∀ (d i k : Nat) (st : List Int), w.length - i = d → i ≤ w.length → d < k → st.length ≤ i → spec_l2Reduce.l0 k w st (i : Int) = some (redL st (w.drop i)) := by
  intro d
  induction d with
  | zero =>
    intro i k st hd hi hk hs
    obtain ⟨k, rfl⟩ : ∃ m, k = m + 1 := ⟨k - 1, by omega⟩
    rw [spec_l2Reduce.l0, if_neg (by omega), List.drop_of_length_le (by omega)]
    rfl
  | succ d ih =>
    intro i k st hd hi hk hs
    obtain ⟨k, rfl⟩ : ∃ m, k = m + 1 := ⟨k - 1, by omega⟩
    have e : wrap64 ((i : Int) + 1) = ((i + 1 : Nat) : Int) := by rw [wrap_id _ (by omega) (by omega)]; omega
    rw [spec_l2Reduce.l0, if_pos (by omega), dropc w i (by omega), e]
    simp only [redL]
    have hpush : spec_l2Reduce.l0 k w (st ++ [rd w (i : Int)]) ((i + 1 : Nat) : Int) = some (redL (st ++ [rd w (i : Int)]) (w.drop (i + 1))) :=
      ih (i + 1) k _ (by omega) (by omega) (by omega) (by rw [List.length_append, List.length_singleton]; omega)
    by_cases hne : st = []
    · subst hne
      rw [if_neg (by simp), if_pos (by omega), if_pos (by simp), if_neg (by simp)]
      exact hpush
    · have hpos : 0 < st.length := List.length_pos_iff.mpr hne
      rw [if_pos (by omega), wrap_id ((st.length : Int) - 1) (by omega) (by omega)]
      have e1 : (st.length : Int) - 1 = ((st.length - 1 : Nat) : Int) := by omega
      rw [e1, if_pos (by omega), if_pos (by omega), if_pos (by omega), neg_w hw i (by omega)]
      by_cases hq : rd st ((st.length - 1 : Nat) : Int) = - rd w (i : Int)
      · rw [if_pos hq, if_pos (by omega), if_pos ⟨hne, hq⟩, Int.toNat_natCast, ← List.dropLast_eq_take]
        exact ih (i + 1) k _ (by omega) (by omega) (by omega) (by rw [List.length_dropLast]; omega)
      · rw [if_neg hq, if_pos (by omega), if_neg (by intro h; exact hq h.2)]
        exact hpush
theorem impl_red_l0 (w : List Int) (hw : ∀ x ∈ w, letterB x = true) (hl : w.length ≤ 1099511627776) : ∀ (d i k : Nat) (st : List Int), w.length - i = d → i ≤ w.length → d < k → st.length ≤ i → impl_reduced.l0 k st w (w.length : Int) (i : Int) = some (redL st (w.drop i)) := by
  intro d
  induction d with
  | zero =>
    intro i k st hd hi hk hs
    obtain ⟨k, rfl⟩ : ∃ m, k = m + 1 := ⟨k - 1, by omega⟩
    rw [impl_reduced.l0, if_neg (by omega), List.drop_of_length_le (by omega)]
    rfl
  | succ d ih =>
    intro i k st hd hi hk hs
    obtain ⟨k, rfl⟩ : ∃ m, k = m + 1 := ⟨k - 1, by omega⟩
    have e : wrap64 ((i : Int) + 1) = ((i + 1 : Nat) : Int) := by rw [wrap_id _ (by omega) (by omega)]; omega
    rw [impl_reduced.l0, if_pos (by omega), if_pos (by omega), if_pos (by omega), dropc w i (by omega), e]
    simp only [redL]
    have hpush : impl_reduced.l0 k (st ++ [rd w (i : Int)]) w (w.length : Int) ((i + 1 : Nat) : Int) = some (redL (st ++ [rd w (i : Int)]) (w.drop (i + 1))) :=
      ih (i + 1) k _ (by omega) (by omega) (by omega) (by rw [List.length_append, List.length_singleton]; omega)
    by_cases hne : st = []
    · subst hne
      rw [wrap_id _ (by simp) (by simp), if_neg (by simp), if_pos (by simp), if_neg (by simp)]
      exact hpush
    · have hpos : 0 < st.length := List.length_pos_iff.mpr hne
      rw [wrap_id ((st.length : Int) - 1) (by omega) (by omega)]
      have e1 : (st.length : Int) - 1 = ((st.length - 1 : Nat) : Int) := by omega
      rw [e1, if_pos (by omega), if_pos (by omega), if_pos (by omega), neg_w hw i (by omega)]
      by_cases hq : rd st ((st.length - 1 : Nat) : Int) = - rd w (i : Int)
      · rw [if_pos hq, if_pos (by omega), if_pos ⟨hne, hq⟩, Int.toNat_natCast, ← List.dropLast_eq_take]
        exact ih (i + 1) k _ (by omega) (by omega) (by omega) (by rw [List.length_dropLast]; omega)
      · rw [if_neg hq, if_pos (by omega), if_neg (by intro h; exact hq h.2)]
        exact hpush
theorem l2Reduce_f {w : List Int} (hb : wordB w = true) (k : Nat) (hk : w.length < k) : spec_l2Reduce.f k w = some (redW w) := by
  have h := word_true w hb
  unfold spec_l2Reduce.f
  exact spec_red_l0 w h.2 (by omega) w.length 0 k [] (by omega) (by omega) hk (by simp)
theorem reduced_f {w : List Int} (hb : wordB w = true) (k : Nat) (hk : w.length < k) : impl_reduced.f k w = some (redW w) := by
  have h := word_true w hb
  unfold impl_reduced.f
  exact impl_red_l0 w h.2 (by omega) w.length 0 k [] (by omega) (by omega) hk (by simp)
theorem in_f (a lo hi : Int) : spec_l1In.f a lo hi = some (decide (lo ≤ a ∧ a ≤ hi)) := by
  unfold spec_l1In.f
  by_cases h : a ≥ lo
  · rw [if_pos h]
    by_cases h2 : a ≤ hi <;> simp [h2, show lo ≤ a from h]
  · rw [if_neg h]
    have h' : ¬ lo ≤ a := h
    simp [h']
/-- A number that tells a set. -/
def setB (a : Int) : Bool := decide (0 ≤ a ∧ a ≤ 63)
end Go.Proofs.Ytgifhmjbmnopcaa.Q
