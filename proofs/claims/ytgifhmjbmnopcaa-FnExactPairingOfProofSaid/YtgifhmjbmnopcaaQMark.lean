import Derived.Test.YtgifhmjbmnopcaaPx3
import Derived.Test.YtgifhmjbmnopcaaQInt
/- Plain facts on marks from a number on. -/
namespace Go.Proofs.Ytgifhmjbmnopcaa.Q
open Go.RowKit Go.Proofs.Ytgifhmjbmnopcaa.Px Go.Proofs.YtgifhmjbmnopcaaW.PrintWords Go.Proofs.YtgifhmjbmnopcaaW.PrintLast
set_option linter.unusedVariables false
set_option linter.unusedSimpArgs false
/-- The marks s, s + 1, .. -/
def marksF (s n : Nat) : List Int := (List.range n).map (fun i => ((i : Nat) : Int) + (s : Int))
theorem marksF_length (s n : Nat) : (marksF s n).length = n := by simp [marksF]
theorem markIntS_l0F (s n : Nat) (hl : n ≤ 35184372088832) (hs : s ≤ 35184372088832) : ∀ (d i k : Nat) (x0 : List Int), n - i = d → i ≤ n → d < k → x0.length = n → x0.take i = (marksF s n).take i → laws_markIntS.l0 k x0 ((i : Int) + (s : Int)) (i : Int) = some ((n : Int) + (s : Int), marksF s n) := by
  intro d
  induction d with
  | zero =>
    intro i k x3 hd hi hk hlen htk
    obtain ⟨k, rfl⟩ : ∃ m, k = m + 1 := ⟨k - 1, by omega⟩
    simp only [laws_markIntS.l0]
    rw [if_neg (by omega)]
    have : i = n := by omega
    subst this
    rw [List.take_of_length_le (by omega), List.take_of_length_le (by rw [marksF_length]; omega)] at htk
    rw [htk]
  | succ d ih =>
    intro i k x3 hd hi hk hlen htk
    obtain ⟨k, rfl⟩ : ∃ m, k = m + 1 := ⟨k - 1, by omega⟩
    simp only [laws_markIntS.l0]
    rw [if_pos (by omega), if_pos (by omega), wrap_id _ (by omega) (by omega), wrap_id _ (by omega) (by omega)]
    have e : ((i : Int) + 1) = ((i + 1 : Nat) : Int) := by omega
    have e2 : ((i : Int) + (s : Int) + 1) = ((i + 1 : Nat) : Int) + (s : Int) := by omega
    have ih' := ih (i + 1) k (x3.set i ((i : Int) + (s : Int))) (by omega) (by omega) (by omega) (by simpa using hlen) (by
      rw [List.take_succ_eq_append_getElem (by simp; omega), List.take_succ_eq_append_getElem (by rw [marksF_length]; omega), List.take_set_of_le (Nat.le_refl _), htk]
      simp [marksF])
    rw [Int.toNat_natCast, ← ih', e, e2]
theorem markIntS_from (s : Nat) (l0 : List Int) (hl : l0.length ≤ 35184372088832) (hs : s ≤ 35184372088832) (k : Nat) (hk : l0.length < k) : laws_markIntS.f k l0 (s : Int) = some ((l0.length : Int) + (s : Int), marksF s l0.length) := by
  unfold laws_markIntS.f
  have := markIntS_l0F s l0.length hl hs l0.length 0 k l0 (by omega) (by omega) hk rfl (by simp)
  have e : (((0 : Nat) : Int) + (s : Int)) = (s : Int) := by omega
  rw [e] at this
  exact this
end Go.Proofs.Ytgifhmjbmnopcaa.Q
