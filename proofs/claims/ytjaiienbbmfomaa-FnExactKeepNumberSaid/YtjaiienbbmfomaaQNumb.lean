import Derived.Test.YtjaiienbbmfomaaQGame
import Derived.Test.YtjaiienbbmfomaaPx1
/- Plain facts on numbers of positions: the least number that a list hasn't. -/
namespace Go.Proofs.Ytjaiienbbmfomaa.Q
open Go.RowKit Go.Proofs.Ytjaiienbbmfomaa.Px Go.Proofs.Ytjaiienbbmfomaa.Giv Go.Proofs.YtjaiienbbmfomaaW.PrintWords Go.Proofs.YtjaiienbbmfomaaW.PrintLast
set_option linter.unusedVariables false
set_option linter.unusedSimpArgs false
theorem pigeon : ∀ (m : Nat) (l : List Int), (∀ j : Nat, j < m → (j : Int) ∈ l) → m ≤ l.length := by
  intro m
  induction m with
  | zero => intro l _; omega
  | succ m ih =>
    intro l h
    have hm := h m (by omega)
    have h1 := ih (l.erase (m : Int)) (fun j hj => (List.mem_erase_of_ne (by omega)).2 (h j (by omega)))
    rw [List.length_erase_of_mem hm] at h1
    have := List.length_pos_of_mem hm
    omega
def hasB (l : List Int) (x : Int) : Bool := decide (x ∈ l)
theorem index_l0 (l : List Int) (x : Int) (hl : l.length ≤ 35184372088832) : ∀ (d i k : Nat), l.length - i = d → i ≤ l.length → d < k → ∃ r, slices_Index_int_int.l0 k l x (l.length : Int) (i : Int) = some r ∧ (r ≥ 0 ↔ x ∈ l.drop i) := by
  intro d
  induction d with
  | zero =>
    intro i k hd hi hk
    obtain ⟨k, rfl⟩ : ∃ m, k = m + 1 := ⟨k - 1, by omega⟩
    refine ⟨-1, ?_, ?_⟩
    · rw [slices_Index_int_int.l0, if_neg (by omega)]
    · rw [List.drop_of_length_le (by omega)]; simp
  | succ d ih =>
    intro i k hd hi hk
    obtain ⟨k, rfl⟩ : ∃ m, k = m + 1 := ⟨k - 1, by omega⟩
    have e : wrap64 ((i : Int) + 1) = ((i + 1 : Nat) : Int) := by rw [wrap_id _ (by omega) (by omega)]; omega
    rw [slices_Index_int_int.l0, if_pos (by omega), if_pos (by omega), if_pos (by omega), e]
    have ed : l.drop i = rd l (i : Int) :: l.drop (i + 1) := dropc l i (by omega)
    by_cases hq : x = rd l (i : Int)
    · exact ⟨(i : Int), by rw [if_pos hq], by rw [ed, hq]; simp⟩
    · obtain ⟨r, h1, h2⟩ := ih (i + 1) k (by omega) (by omega) (by omega)
      exact ⟨r, by rw [if_neg hq]; exact h1, by rw [h2, ed]; simp [hq]⟩
theorem contains_f (l : List Int) (x : Int) (hl : l.length ≤ 35184372088832) (k : Nat) (hk : l.length < k) : slices_Contains_int_int.f k l x = some (hasB l x) := by
  obtain ⟨r, h1, h2⟩ := index_l0 l x hl l.length 0 k (by omega) (by omega) (by omega)
  unfold slices_Contains_int_int.f slices_Index_int_int.f hasB
  rw [show (0 : Int) = ((0 : Nat) : Int) from rfl, h1, Option.bind_some]
  congr 1
  rw [List.drop_zero] at h2
  exact decide_eq_decide.2 h2
theorem has_l0 (l : List Int) (x : Int) (hl : l.length ≤ 35184372088832) : ∀ (d i k : Nat), l.length - i = d → i ≤ l.length → d < k → spec_l1Has.l0 k l x (i : Int) = some (decide (x ∈ l.drop i)) := by
  intro d
  induction d with
  | zero =>
    intro i k hd hi hk
    obtain ⟨k, rfl⟩ : ∃ m, k = m + 1 := ⟨k - 1, by omega⟩
    rw [spec_l1Has.l0, if_neg (by omega), List.drop_of_length_le (by omega)]
    simp
  | succ d ih =>
    intro i k hd hi hk
    obtain ⟨k, rfl⟩ : ∃ m, k = m + 1 := ⟨k - 1, by omega⟩
    have e : wrap64 ((i : Int) + 1) = ((i + 1 : Nat) : Int) := by rw [wrap_id _ (by omega) (by omega)]; omega
    rw [spec_l1Has.l0, if_pos (by omega), if_pos (by omega), e]
    have ed : l.drop i = rd l (i : Int) :: l.drop (i + 1) := dropc l i (by omega)
    by_cases hq : rd l (i : Int) = x
    · rw [if_pos hq, ed, hq]; simp
    · rw [if_neg hq, ih (i + 1) k (by omega) (by omega) (by omega), ed]
      congr 1
      have hq' : ¬ x = rd l (i : Int) := fun h => hq h.symm
      simp [hq']
theorem l1Has_f (l : List Int) (x : Int) (hl : l.length ≤ 35184372088832) (k : Nat) (hk : l.length < k) : spec_l1Has.f k l x = some (hasB l x) := by
  unfold spec_l1Has.f hasB
  have := has_l0 l x hl l.length 0 k (by omega) (by omega) (by omega)
  simpa using this
/-- The least number from j on that a list hasn't. -/
def mexF : Nat → List Int → Int → Int
  | 0, _, j => j
  | d + 1, l, j => if hasB l j = true then mexF d l (j + 1) else j
def mexL (l : List Int) : Int := mexF (l.length + 1) l 0
theorem mexF_out (d : Nat) (l : List Int) (j : Int) (h : hasB l j = false) : mexF d l j = j := by
  cases d with
  | zero => rfl
  | succ d => rw [mexF, if_neg (by rw [h]; exact Bool.false_ne_true)]
/-- Where the search for the least number stands. -/
def MexAt (l : List Int) (j : Nat) : Prop := (∀ i : Nat, i < j → (i : Int) ∈ l) ∧ mexL l = mexF (l.length + 1 - j) l (j : Int)
theorem MexAt.start (l : List Int) : MexAt l 0 := ⟨fun i hi => by omega, rfl⟩
theorem MexAt.le {l : List Int} {j : Nat} (h : MexAt l j) : j ≤ l.length := pigeon j l h.1
theorem MexAt.next {l : List Int} {j : Nat} (h : MexAt l j) (hh : hasB l (j : Int) = true) : MexAt l (j + 1) := by
  have hm : (j : Int) ∈ l := of_decide_eq_true hh
  have h1 : ∀ i : Nat, i < j + 1 → (i : Int) ∈ l := fun i hi => by
    by_cases e : i = j
    · rw [e]; exact hm
    · exact h.1 i (by omega)
  have h2 := pigeon (j + 1) l h1
  refine ⟨h1, ?_⟩
  rw [h.2, show l.length + 1 - j = (l.length + 1 - (j + 1)) + 1 by omega, mexF, if_pos hh]
  rfl
theorem MexAt.out {l : List Int} {j : Nat} (h : MexAt l j) (hh : hasB l (j : Int) = false) : mexL l = (j : Int) := by rw [h.2, mexF_out _ _ _ hh]
/-- The moves behind which the word still hangs, and the number of a position. -/
def safeL (T : Int → Bool) (n set : Int) : List Int := (inL n set).filter fun x => !T (nextI set x)
def numL : Nat → (Int → Bool) → Int → Int → Int
  | 0, _, _, _ => 0
  | d + 1, T, n, set => mexL ((safeL T n set).map fun x => numL d T n (nextI set x))
end Go.Proofs.Ytjaiienbbmfomaa.Q
