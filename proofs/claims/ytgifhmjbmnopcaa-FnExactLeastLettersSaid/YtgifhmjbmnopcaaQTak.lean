import Derived.Test.YtgifhmjbmnopcaaPx2
import Derived.Test.YtgifhmjbmnopcaaQRed
import Derived.Test.YtgifhmjbmnopcaaGivPic
/- Plain facts on what is left of a word when a set is taken out. -/
namespace Go.Proofs.Ytgifhmjbmnopcaa.Q
open Go.RowKit Go.Proofs.Ytgifhmjbmnopcaa.Px Go.Proofs.Ytgifhmjbmnopcaa.Giv Go.Proofs.YtgifhmjbmnopcaaW.PrintWords Go.Proofs.YtgifhmjbmnopcaaW.PrintLast
set_option linter.unusedVariables false
set_option linter.unusedSimpArgs false
def lettersL : List Int := [-6, -5, -4, -3, -2, -1, 1, 2, 3, 4, 5, 6]
theorem letter_mem {x : Int} (h : letterB x = true) : x ∈ lettersL := by
  have := letter_range h
  obtain ⟨h0, h1, h2⟩ := this
  have : x = -6 ∨ x = -5 ∨ x = -4 ∨ x = -3 ∨ x = -2 ∨ x = -1 ∨ x = 1 ∨ x = 2 ∨ x = 3 ∨ x = 4 ∨ x = 5 ∨ x = 6 := by omega
  rcases this with h | h | h | h | h | h | h | h | h | h | h | h <;> (subst h; decide)
set_option maxRecDepth 100000 in
theorem tak_all : ((List.range 64).all fun s => lettersL.all fun x => takB x && (((spec_l2Nail.f x).bind (fun t => spec_l3In.f (s : Int) t)) == some (takP (s : Int) x))) = true := by decide +kernel
theorem tak_in {set x : Int} (hs : setB set = true) (hx : letterB x = true) : takB x = true ∧ (spec_l2Nail.f x).bind (fun t => spec_l3In.f set t) = some (takP set x) := by
  have h1 := of_decide_eq_true hs
  obtain ⟨n, rfl⟩ := Int.eq_ofNat_of_zero_le h1.1
  have h2 := List.all_eq_true.1 (List.all_eq_true.1 tak_all n (List.mem_range.2 (by omega))) x (letter_mem hx)
  rw [Bool.and_eq_true] at h2
  exact ⟨h2.1, eq_of_beq h2.2⟩
/-- What is left of a word, before it is reduced, and behind. -/
def leftL (set : Int) (w : List Int) : List Int := w.filter fun x => !takP set x
def takW (set : Int) (w : List Int) : List Int := redW (leftL set w)
theorem leftL_word {set : Int} {w : List Int} (hb : wordB w = true) : wordB (leftL set w) = true := by
  have h := word_true w hb
  have hl : (leftL set w).length ≤ w.length := List.length_filter_le _ _
  unfold wordB
  rw [Bool.and_eq_true]
  exact ⟨decide_eq_true (by omega), List.all_eq_true.2 fun x hx => h.2 x (List.mem_filter.1 hx).1⟩
theorem taken_f {w : List Int} (hb : wordB w = true) {set : Int} (hs : setB set = true) (k : Nat) (hk : w.length < k) : impl_taken.f k w set = some (takW set w) := by
  have h := word_true w hb
  have hl : (leftL set w).length ≤ w.length := List.length_filter_le _ _
  unfold impl_taken.f
  rw [if_pos ⟨List.all_eq_true.2 fun x hx => (tak_in hs (h.2 x hx)).1, by omega⟩]
  exact reduced_f (leftL_word hb) k (by omega)
theorem l3Take_l0 {w : List Int} (hb : wordB w = true) {set : Int} (hs : setB set = true) : ∀ (d i k : Nat) (acc : List Int), w.length - i = d → i ≤ w.length → d + w.length + 1 < k → acc.length ≤ i → wordB (acc ++ leftL set (w.drop i)) = true → spec_l3Take.l0 k w set acc (i : Int) = some (redW (acc ++ leftL set (w.drop i))) := by
  have h := word_true w hb
  intro d
  induction d with
  | zero =>
    intro i k acc hd hi hk ha hw
    obtain ⟨k, rfl⟩ : ∃ m, k = m + 1 := ⟨k - 1, by omega⟩
    have e0 : w.drop i = [] := List.drop_of_length_le (by omega)
    rw [e0] at hw ⊢
    have e1 : acc ++ leftL set [] = acc := by simp [leftL]
    rw [e1] at hw ⊢
    rw [spec_l3Take.l0, if_neg (by omega), l2Reduce_f hw k (by omega), Option.bind_some]
  | succ d ih =>
    intro i k acc hd hi hk ha hw
    obtain ⟨k, rfl⟩ : ∃ m, k = m + 1 := ⟨k - 1, by omega⟩
    have hx : letterB (rd w (i : Int)) = true := h.2 _ (rd_mem w i (by omega))
    have hq := (tak_in hs hx).2
    have e : wrap64 ((i : Int) + 1) = ((i + 1 : Nat) : Int) := by rw [wrap_id _ (by omega) (by omega)]; omega
    have ed : w.drop i = rd w (i : Int) :: w.drop (i + 1) := dropc w i (by omega)
    rw [spec_l3Take.l0, if_pos (by omega), if_pos (by omega), e]
    cases hn : spec_l2Nail.f (rd w (i : Int)) with
    | none => rw [hn] at hq; cases hq
    | some t =>
      rw [hn, Option.bind_some] at hq
      rw [Option.bind_some, hq, Option.bind_some]
      cases ht : takP set (rd w (i : Int)) with
      | true =>
        have e2 : leftL set (w.drop i) = leftL set (w.drop (i + 1)) := by rw [ed]; unfold leftL; rw [List.filter_cons_of_neg (by simp [ht])]
        rw [e2] at hw ⊢
        rw [if_pos rfl]
        exact ih (i + 1) k acc (by omega) (by omega) (by omega) (by omega) hw
      | false =>
        have e2 : acc ++ leftL set (w.drop i) = (acc ++ [rd w (i : Int)]) ++ leftL set (w.drop (i + 1)) := by rw [ed]; unfold leftL; rw [List.filter_cons_of_pos (by simp [ht])]; simp
        rw [e2] at hw ⊢
        rw [if_neg (by simp), if_pos (by omega)]
        exact ih (i + 1) k (acc ++ [rd w (i : Int)]) (by omega) (by omega) (by omega) (by simp; omega) hw
theorem l3Take_f {w : List Int} (hb : wordB w = true) {set : Int} (hs : setB set = true) (k : Nat) (hk : 2 * w.length + 1 < k) : spec_l3Take.f k w set = some (takW set w) := by
  have := l3Take_l0 hb hs w.length 0 k [] (by omega) (by omega) (by omega) (by simp) (by simpa using leftL_word hb)
  unfold spec_l3Take.f takW
  simpa using this
end Go.Proofs.Ytgifhmjbmnopcaa.Q
