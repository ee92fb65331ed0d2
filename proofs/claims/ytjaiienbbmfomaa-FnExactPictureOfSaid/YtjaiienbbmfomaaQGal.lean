import Derived.Test.YtjaiienbbmfomaaPx9
import Derived.Test.YtjaiienbbmfomaaPx12
import Derived.Test.YtjaiienbbmfomaaPx11
import Derived.Test.YtjaiienbbmfomaaPx10
import Derived.Test.YtjaiienbbmfomaaPx1
import Derived.Test.YtjaiienbbmfomaaQRed
/- Plain facts on galleries: which are valid. -/
namespace Go.Proofs.Ytjaiienbbmfomaa.Q
open Go.RowKit Go.Proofs.Ytjaiienbbmfomaa.Px Go.Proofs.Ytjaiienbbmfomaa.Giv Go.Proofs.YtjaiienbbmfomaaW.PrintWords Go.Proofs.YtjaiienbbmfomaaW.PrintLast
set_option linter.unusedVariables false
set_option linter.unusedSimpArgs false
theorem rd_last_take (w : List Int) (i : Nat) (h0 : 0 < i) (hi : i ≤ w.length) : rd (w.take i) (((w.take i).length - 1 : Nat) : Int) = rd w ((i - 1 : Nat) : Int) := by
  have hl : (w.take i).length = i := by rw [List.length_take]; omega
  rw [hl, rd_get _ (i - 1) (by omega), rd_get w (i - 1) (by omega), List.getElem_take]
theorem spec_isred_l0 (w : List Int) (hw : ∀ x ∈ w, letterB x = true) (hl : w.length ≤ 1099511627776) : ∀ (d i k : Nat), w.length - i = d → 0 < i → i ≤ w.length → d < k → spec_l2Reduced.l0 k w (i : Int) = some (decide ((redL (w.take i) (w.drop i)).length = w.length)) := by
  intro d
  induction d with
  | zero =>
    intro i k hd h0 hi hk
    obtain ⟨k, rfl⟩ : ∃ m, k = m + 1 := ⟨k - 1, by omega⟩
    rw [spec_l2Reduced.l0, if_neg (by omega), List.drop_of_length_le (by omega), List.take_of_length_le (by omega)]
    simp [redL]
  | succ d ih =>
    intro i k hd h0 hi hk
    obtain ⟨k, rfl⟩ : ∃ m, k = m + 1 := ⟨k - 1, by omega⟩
    have e : wrap64 ((i : Int) + 1) = ((i + 1 : Nat) : Int) := by rw [wrap_id _ (by omega) (by omega)]; omega
    have e1 : wrap64 ((i : Int) - 1) = ((i - 1 : Nat) : Int) := by rw [wrap_id _ (by omega) (by omega)]; omega
    have hl1 : (w.take i).length = i := by rw [List.length_take]; omega
    have hne : w.take i ≠ [] := by intro h; rw [h] at hl1; simp at hl1; omega
    rw [spec_l2Reduced.l0, if_pos (by omega), if_pos (by omega), e, e1, if_pos (by omega), if_pos (by omega), neg_w hw (i - 1) (by omega), dropc w i (by omega)]
    by_cases hq : rd w (i : Int) = - rd w ((i - 1 : Nat) : Int)
    · have er : redL (w.take i) (rd w (i : Int) :: w.drop (i + 1)) = redL (w.take i).dropLast (w.drop (i + 1)) := by
        simp only [redL]
        rw [rd_last_take w i h0 hi, if_pos ⟨hne, by omega⟩]
      rw [if_pos hq, er]
      have := redL_length (w.drop (i + 1)) (w.take i).dropLast
      rw [List.length_dropLast, hl1, List.length_drop] at this
      rw [decide_eq_false (by omega)]
    · have er : redL (w.take i) (rd w (i : Int) :: w.drop (i + 1)) = redL (w.take i ++ [rd w (i : Int)]) (w.drop (i + 1)) := by
        simp only [redL]
        rw [rd_last_take w i h0 hi, if_neg (by intro h; exact hq (by omega))]
      have : w.take i ++ [rd w (i : Int)] = w.take (i + 1) := by
        rw [List.take_succ_eq_append_getElem (by omega), rd_get w i (by omega)]
      rw [if_neg hq, ih (i + 1) k (by omega) (by omega) (by omega) (by omega), er, this]
theorem l2Reduced_f {w : List Int} (hb : wordB w = true) (k : Nat) (hk : w.length + 1 < k) : spec_l2Reduced.f k w = some (decide ((redW w).length = w.length)) := by
  have h := word_true w hb
  unfold spec_l2Reduced.f
  by_cases h0 : w = []
  · subst h0
    obtain ⟨k, rfl⟩ : ∃ m, k = m + 1 := ⟨k - 1, by omega⟩
    rw [spec_l2Reduced.l0, if_neg (by simp)]
    simp [redW, redL]
  · have hpos : 0 < w.length := List.length_pos_iff.mpr h0
    have := spec_isred_l0 w h.2 (by omega) (w.length - 1) 1 k (by omega) (by omega) (by omega) (by omega)
    have e1 : ((1 : Nat) : Int) = 1 := rfl
    rw [e1] at this
    rw [this]
    have e2 : w.take 1 = [rd w ((0 : Nat) : Int)] := by
      rw [List.take_succ_eq_append_getElem hpos, rd_get w 0 hpos]; simp
    have e3 : redW w = redL (w.take 1) (w.drop 1) := by
      unfold redW
      have := dropc w 0 hpos
      rw [List.drop_zero] at this
      rw [e2]
      conv => lhs; rw [this]
      simp [redL]
    rw [e3]
theorem in_f (a lo hi : Int) : spec_l1In.f a lo hi = some (decide (lo ≤ a ∧ a ≤ hi)) := by
  unfold spec_l1In.f
  by_cases h : a ≥ lo
  · rw [if_pos h]
    by_cases h2 : a ≤ hi <;> simp [h2, show lo ≤ a from h]
  · rw [if_neg h]
    have h' : ¬ lo ≤ a := h
    simp [h']
def setB (a : Int) : Bool := decide (0 ≤ a ∧ a ≤ 63)
theorem l3Set_f (a : Int) : spec_l3Set.f a = some (setB a) := by unfold spec_l3Set.f; rw [in_f, Option.bind_some]; rfl
theorem isSet_f (a : Int) : impl_isSet.f a = some (setB a) := by
  unfold impl_isSet.f setB
  by_cases h : a ≥ 0
  · rw [if_pos h]
    by_cases h2 : a ≤ 63
    · simp [show a < 64 by omega, h2, show 0 ≤ a from h]
    · simp [show ¬ a < 64 by omega, h2]
  · rw [if_neg h]
    simp [show ¬ 0 ≤ a from h]
/-- A gallery is valid. -/
def galB (w : List Int) (out count : Int) : Bool := wordB w && decide ((redW w).length = w.length) && setB out && decide (0 ≤ count ∧ count ≤ 1000)
theorem l12Good_f (w : List Int) (a b : Int) (hl : w.length ≤ 1048576) (k : Nat) (hk : 2 * w.length + 3 < k) : spec_l12Good.f k w a b = some (galB w a b) := by
  unfold spec_l12Good.f galB
  rw [l2Word_f w (by omega) k (by omega), Option.bind_some]
  cases hb : wordB w with
  | false => simp
  | true =>
    rw [if_pos rfl, l2Reduced_f hb k (by omega), Option.bind_some]
    by_cases h1 : (redW w).length = w.length
    · rw [if_pos (by simp [h1]), l3Set_f, Option.bind_some]
      cases hs : setB a with
      | false => simp
      | true => rw [if_pos rfl, in_f, Option.bind_some]; simp [h1]
    · rw [if_neg (by simp [h1])]
      simp [h1]
theorem isGallery_f (w : List Int) (a b : Int) (hl : w.length ≤ 1048576) (k : Nat) (hk : 2 * w.length + 3 < k) : impl_isGallery.f k w a b = some (galB w a b) := by
  unfold impl_isGallery.f galB
  rw [isWord_f, Option.bind_some]
  cases hb : wordB w with
  | false => simp
  | true =>
    rw [if_pos rfl, reduced_f hb k (by omega), Option.bind_some]
    by_cases h1 : (redW w).length = w.length
    · rw [if_pos (by omega), isSet_f, Option.bind_some]
      cases hs : setB a with
      | false => simp
      | true =>
        rw [if_pos rfl]
        by_cases h2 : b ≥ 0
        · rw [if_pos h2]; simp [h1, show 0 ≤ b from h2]
        · rw [if_neg h2]; simp [h1, show ¬ 0 ≤ b from h2]
    · rw [if_neg (by omega)]
      simp [h1]
theorem IsGallery_agree (w : List Int) (a b : Int) (hl : w.length ≤ 1048576) : ∃ K r, ∀ k, K ≤ k → spec_IsGallery.f k w a b = some r ∧ impl_IsGallery.f k w a b = some r := by
  refine ⟨2 * w.length + 4, galB w a b, fun k hk => ?_⟩
  unfold spec_IsGallery.f impl_IsGallery.f
  rw [l12Good_f w a b hl k (by omega), isGallery_f w a b hl k (by omega)]
  exact ⟨rfl, rfl⟩
end Go.Proofs.Ytjaiienbbmfomaa.Q
