import Derived.Test.YtgifhmjbmnopcaaQInt
import Derived.Test.YtgifhmjbmnopcaaPx6
/- Plain facts on slices.Concat over lists of numbers: it joins them. -/
namespace Go.Proofs.Ytgifhmjbmnopcaa.Q
open Go.RowKit Go.Proofs.Ytgifhmjbmnopcaa.Px Go.Proofs.Ytgifhmjbmnopcaa.Giv Go.Proofs.YtgifhmjbmnopcaaW.PrintWords Go.Proofs.YtgifhmjbmnopcaaW.PrintLast
set_option linter.unusedVariables false
set_option linter.unusedSimpArgs false
theorem rd_L1_get (ls : List (List Int)) (i : Nat) (h : i < ls.length) : rd_L1 ls (i : Int) = ls[i] := by
  unfold rd_L1
  rw [Int.toNat_natCast, List.getD_eq_getElem?_getD, List.getElem?_eq_getElem h]; rfl
theorem flat_take_succ (ls : List (List Int)) (i : Nat) (h : i < ls.length) : (ls.take (i + 1)).flatten = (ls.take i).flatten ++ ls[i] := by
  rw [List.take_succ_eq_append_getElem h, List.flatten_append]; simp
theorem flat_take_le (ls : List (List Int)) (i : Nat) : (ls.take i).flatten.length ≤ ls.flatten.length := by
  have h : ls.flatten = (ls.take i).flatten ++ (ls.drop i).flatten := by rw [← List.flatten_append, List.take_append_drop]
  rw [h, List.length_append]; omega
theorem Concat_l1 (ls : List (List Int)) (hl : ls.length ≤ 1099511627776) (hf : ls.flatten.length ≤ 1099511627776) : ∀ (d i k : Nat), ls.length - i = d → i ≤ ls.length → d < k → slices_Concat_int_int.l1 k (ls.take i).flatten ls (ls.length : Int) (i : Int) = some ls.flatten := by
  intro d
  induction d with
  | zero =>
    intro i k hd hi hk
    obtain ⟨k, rfl⟩ : ∃ m, k = m + 1 := ⟨k - 1, by omega⟩
    simp only [slices_Concat_int_int.l1]
    rw [if_neg (by omega)]
    have : i = ls.length := by omega
    rw [this, List.take_length]
  | succ d ih =>
    intro i k hd hi hk
    obtain ⟨k, rfl⟩ : ∃ m, k = m + 1 := ⟨k - 1, by omega⟩
    simp only [slices_Concat_int_int.l1]
    have e : ((i : Int) + 1) = ((i + 1 : Nat) : Int) := by omega
    have ih' := ih (i + 1) k (by omega) (by omega) (by omega)
    have hle := flat_take_le ls (i + 1)
    rw [flat_take_succ ls i (by omega)] at ih' hle
    rw [List.length_append] at hle
    rw [rd_L1_get ls i (by omega), if_pos (by omega), if_pos (by omega), if_pos (by omega), if_pos (by omega), wrap_id _ (by omega) (by omega), e]
    exact ih'
theorem Concat_l0 (ls : List (List Int)) (hl : ls.length ≤ 1099511627776) (hf : ls.flatten.length ≤ 1099511627776) : ∀ (d i k : Nat), ls.length - i = d → i ≤ ls.length → d + ls.length + 1 < k → slices_Concat_int_int.l0 k ls ((ls.take i).flatten.length : Int) ls (ls.length : Int) (i : Int) = some ls.flatten := by
  intro d
  induction d with
  | zero =>
    intro i k hd hi hk
    obtain ⟨k, rfl⟩ : ∃ m, k = m + 1 := ⟨k - 1, by omega⟩
    simp only [slices_Concat_int_int.l0]
    have hle := flat_take_le ls i
    rw [if_neg (by omega)]
    unfold slices_Grow_int_int.f
    rw [if_pos ⟨rfl, by omega, by omega⟩]
    simp only [Option.bind_some]
    have := Concat_l1 ls hl hf ls.length 0 k (by omega) (by omega) (by omega)
    simpa using this
  | succ d ih =>
    intro i k hd hi hk
    obtain ⟨k, rfl⟩ : ∃ m, k = m + 1 := ⟨k - 1, by omega⟩
    simp only [slices_Concat_int_int.l0]
    have e : ((i : Int) + 1) = ((i + 1 : Nat) : Int) := by omega
    have ih' := ih (i + 1) k (by omega) (by omega) (by omega)
    have hle := flat_take_le ls (i + 1)
    rw [flat_take_succ ls i (by omega)] at ih' hle
    rw [List.length_append] at hle ih'
    have e2 : (((ls.take i).flatten.length : Int) + ((ls[i]'(by omega)).length : Int)) = (((ls.take i).flatten.length + (ls[i]'(by omega)).length : Nat) : Int) := by omega
    rw [rd_L1_get ls i (by omega), if_pos (by omega), if_pos (by omega), if_pos (by omega), wrap_id (_ + ((ls[i]'(by omega)).length : Int)) (by omega) (by omega), if_neg (by omega), wrap_id _ (by omega) (by omega), e, e2]
    exact ih'
theorem Concat_f (ls : List (List Int)) (hl : ls.length ≤ 1099511627776) (hf : ls.flatten.length ≤ 1099511627776) (k : Nat) (hk : 2 * ls.length + 1 < k) : slices_Concat_int_int.f k ls = some ls.flatten := by
  unfold slices_Concat_int_int.f
  have := Concat_l0 ls hl hf ls.length 0 k (by omega) (by omega) (by omega)
  simpa using this
end Go.Proofs.Ytgifhmjbmnopcaa.Q
