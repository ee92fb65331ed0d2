import Derived.Test.YtgifhmjbmnopcaaPx4
import Derived.Test.YtgifhmjbmnopcaaPx4
import Derived.Test.YtgifhmjbmnopcaaPx3
import Derived.Test.YtgifhmjbmnopcaaPx3
/- Plain facts on the helpers of the exact laws over lists of numbers: a copy is what it copies, a list equals itself, marks are held. -/
namespace Go.Proofs.Ytgifhmjbmnopcaa.Q
open Go.RowKit Go.Proofs.Ytgifhmjbmnopcaa.Px Go.Proofs.YtgifhmjbmnopcaaW.PrintWords Go.Proofs.YtgifhmjbmnopcaaW.PrintLast
set_option linter.unusedVariables false
set_option linter.unusedSimpArgs false
theorem wrap_id (x : Int) (h0 : -9223372036854775808 ≤ x) (h1 : x ≤ 9223372036854775807) : wrap64 x = x := by unfold wrap64; omega
theorem rd_nat (l : List Int) (i : Nat) : rd l (i : Int) = l.getD i 0 := rfl
theorem rd_get (l : List Int) (i : Nat) (h : i < l.length) : rd l (i : Int) = l[i] := by
  rw [rd_nat, List.getD_eq_getElem?_getD, List.getElem?_eq_getElem h]; rfl
theorem toIntS_l0 (l0 : List Int) (hl : l0.length ≤ 9223372036854775806) : ∀ (d i k : Nat) (x3 : List Int), l0.length - i = d → i ≤ l0.length → d < k → x3.length = l0.length → x3.take i = l0.take i → laws_toIntS.l0 k l0 x3 (i : Int) = some l0 := by
  intro d
  induction d with
  | zero =>
    intro i k x3 hd hi hk hlen htk
    obtain ⟨k, rfl⟩ : ∃ m, k = m + 1 := ⟨k - 1, by omega⟩
    simp only [laws_toIntS.l0]
    rw [if_neg (by omega)]
    have : i = l0.length := by omega
    subst this
    rw [List.take_of_length_le (by omega), List.take_of_length_le (by omega)] at htk
    rw [htk]
  | succ d ih =>
    intro i k x3 hd hi hk hlen htk
    obtain ⟨k, rfl⟩ : ∃ m, k = m + 1 := ⟨k - 1, by omega⟩
    simp only [laws_toIntS.l0]
    rw [if_pos (by omega), if_pos (by omega), if_pos (by omega), wrap_id _ (by omega) (by omega)]
    have e : ((i : Int) + 1) = ((i + 1 : Nat) : Int) := by omega
    rw [e]
    refine ih (i + 1) k _ (by omega) (by omega) (by omega) (by simpa using hlen) ?_
    rw [rd_get l0 i (by omega), Int.toNat_natCast, List.take_succ_eq_append_getElem (by simp; omega), List.take_succ_eq_append_getElem (by omega)]
    rw [List.take_set_of_le (Nat.le_refl _), htk]
    simp
theorem toIntS_f (l0 : List Int) (hl : l0.length ≤ 35184372088832) (k : Nat) (hk : l0.length < k) : laws_toIntS.f k l0 = some l0 := by
  unfold laws_toIntS.f
  have := toIntS_l0 l0 (by omega) l0.length 0 k (List.replicate l0.length 0) (by omega) (by omega) hk (by simp) (by simp)
  have e0 : ((0 : Nat) : Int) = 0 := rfl
  rw [e0] at this
  simp [this, hl]
theorem eqIntS_l0 (l0 : List Int) (hl : l0.length ≤ 9223372036854775806) : ∀ (d i k : Nat), l0.length - i = d → i ≤ l0.length → d < k → laws_eqIntS.l0 k l0 l0 (i : Int) = some true := by
  intro d
  induction d with
  | zero =>
    intro i k hd hi hk
    obtain ⟨k, rfl⟩ : ∃ m, k = m + 1 := ⟨k - 1, by omega⟩
    simp only [laws_eqIntS.l0]
    rw [if_neg (by omega)]
  | succ d ih =>
    intro i k hd hi hk
    obtain ⟨k, rfl⟩ : ∃ m, k = m + 1 := ⟨k - 1, by omega⟩
    simp only [laws_eqIntS.l0]
    have e : ((i : Int) + 1) = ((i + 1 : Nat) : Int) := by omega
    rw [wrap_id _ (by omega) (by omega), e, ih (i + 1) k (by omega) (by omega) (by omega), if_pos (by omega), if_pos (by omega), if_pos (by omega), if_pos trivial]
theorem eqIntS_f (l0 : List Int) (hl : l0.length ≤ 35184372088832) (k : Nat) (hk : l0.length < k) : laws_eqIntS.f k l0 l0 = some true := by
  unfold laws_eqIntS.f
  have := eqIntS_l0 l0 (by omega) l0.length 0 k (by omega) (by omega) hk
  simpa using this
/-- The marks 1, 2, .. -/
def marks (n : Nat) : List Int := (List.range n).map (fun i => ((i : Nat) : Int) + 1)
theorem marks_length (n : Nat) : (marks n).length = n := by simp [marks]
theorem marks_get (n i : Nat) (h : i < n) : rd (marks n) (i : Int) = (i : Int) + 1 := by
  rw [rd_get _ i (by rw [marks_length]; exact h)]
  simp [marks]
theorem markIntS_l0 (n : Nat) (hl : n ≤ 35184372088832) : ∀ (d i k : Nat) (x0 : List Int), n - i = d → i ≤ n → d < k → x0.length = n → x0.take i = (marks n).take i → laws_markIntS.l0 k x0 ((i : Int) + 1) (i : Int) = some ((n : Int) + 1, marks n) := by
  intro d
  induction d with
  | zero =>
    intro i k x3 hd hi hk hlen htk
    obtain ⟨k, rfl⟩ : ∃ m, k = m + 1 := ⟨k - 1, by omega⟩
    simp only [laws_markIntS.l0]
    rw [if_neg (by omega)]
    have : i = n := by omega
    subst this
    rw [List.take_of_length_le (by omega), List.take_of_length_le (by rw [marks_length]; omega)] at htk
    rw [htk]
  | succ d ih =>
    intro i k x3 hd hi hk hlen htk
    obtain ⟨k, rfl⟩ : ∃ m, k = m + 1 := ⟨k - 1, by omega⟩
    simp only [laws_markIntS.l0]
    rw [if_pos (by omega), if_pos (by omega), wrap_id _ (by omega) (by omega), wrap_id _ (by omega) (by omega)]
    have e : ((i : Int) + 1) = ((i + 1 : Nat) : Int) := by omega
    have ih' := ih (i + 1) k (x3.set i ((i : Int) + 1)) (by omega) (by omega) (by omega) (by simpa using hlen) (by
      rw [List.take_succ_eq_append_getElem (by simp; omega), List.take_succ_eq_append_getElem (by rw [marks_length]; omega), List.take_set_of_le (Nat.le_refl _), htk]
      simp [marks])
    rw [Int.toNat_natCast, ← ih', e]
theorem markIntS_f (l0 : List Int) (hl : l0.length ≤ 35184372088832) (k : Nat) (hk : l0.length < k) : laws_markIntS.f k l0 1 = some ((l0.length : Int) + 1, marks l0.length) := by
  unfold laws_markIntS.f
  exact markIntS_l0 l0.length hl l0.length 0 k l0 (by omega) (by omega) hk rfl (by simp)
theorem heldIntS_l0 (n : Nat) (hl : n ≤ 35184372088832) : ∀ (d i k : Nat), n - i = d → i ≤ n → d < k → laws_heldIntS.l0 k (marks n) ((i : Int) + 1) (i : Int) = some ((n : Int) + 1) := by
  intro d
  induction d with
  | zero =>
    intro i k hd hi hk
    obtain ⟨k, rfl⟩ : ∃ m, k = m + 1 := ⟨k - 1, by omega⟩
    simp only [laws_heldIntS.l0]
    rw [marks_length, if_neg (by omega)]
    have : i = n := by omega
    rw [this]
  | succ d ih =>
    intro i k hd hi hk
    obtain ⟨k, rfl⟩ : ∃ m, k = m + 1 := ⟨k - 1, by omega⟩
    simp only [laws_heldIntS.l0]
    rw [marks_length, if_pos (by omega), if_pos (by omega), marks_get n i (by omega), if_pos rfl, wrap_id _ (by omega) (by omega), wrap_id _ (by omega) (by omega)]
    have e : ((i : Int) + 1) = ((i + 1 : Nat) : Int) := by omega
    have ih' := ih (i + 1) k (by omega) (by omega) (by omega)
    rw [← ih', e]
theorem heldIntS_f (n : Nat) (hl : n ≤ 35184372088832) (k : Nat) (hk : n < k) : laws_heldIntS.f k (marks n) 1 = some ((n : Int) + 1) := by
  unfold laws_heldIntS.f
  exact heldIntS_l0 n hl n 0 k (by omega) (by omega) hk
end Go.Proofs.Ytgifhmjbmnopcaa.Q
