import Derived.Test.YtgifhmjbmnopcaaQCut
import Derived.Test.YtgifhmjbmnopcaaPx8
import Derived.Test.YtgifhmjbmnopcaaPx8
import Derived.Test.YtgifhmjbmnopcaaPx8
import Derived.Test.YtgifhmjbmnopcaaPx8
/- Plain facts on lists that are proofs. -/
namespace Go.Proofs.Ytgifhmjbmnopcaa.Q
open Go.RowKit Go.Proofs.Ytgifhmjbmnopcaa.Px Go.Proofs.Ytgifhmjbmnopcaa.Giv Go.Proofs.YtgifhmjbmnopcaaW.PrintWords Go.Proofs.YtgifhmjbmnopcaaW.PrintLast
set_option linter.unusedVariables false
set_option linter.unusedSimpArgs false
def proofB : List Int → List Int → Bool
  | w, [] => ((w.length : Int) == 0)
  | w, i :: rest => if isCutI w i = true then proofB (cutL w i.toNat) rest else false
theorem drop_cons (l : List Int) (i : Nat) (h : i < l.length) : l.drop i = rd l (i : Int) :: l.drop (i + 1) := by
  rw [rd_get l i h]; exact List.drop_eq_getElem_cons h
theorem l11Proof_l0 (l1 : List Int) (hl : l1.length ≤ 1099511627776) : ∀ (d i k : Nat) (w : List Int), w.length ≤ 1048576 → l1.length - i = d → i ≤ l1.length → d < k → spec_l11Proof.l0 k w l1 (i : Int) = some (proofB w (l1.drop i)) := by
  intro d
  induction d with
  | zero =>
    intro i k w hw hd hi hk
    obtain ⟨k, rfl⟩ : ∃ m, k = m + 1 := ⟨k - 1, by omega⟩
    simp only [spec_l11Proof.l0]
    rw [if_neg (by omega), List.drop_of_length_le (by omega)]
    rfl
  | succ d ih =>
    intro i k w hw hd hi hk
    obtain ⟨k, rfl⟩ : ∃ m, k = m + 1 := ⟨k - 1, by omega⟩
    simp only [spec_l11Proof.l0]
    have e : ((i : Int) + 1) = ((i + 1 : Nat) : Int) := by omega
    rw [if_pos (by omega), if_pos (by omega), can_i w (by omega), drop_cons l1 i (by omega), wrap_id _ (by omega) (by omega), e]
    simp only [Option.bind_some, proofB]
    cases hc : isCutI w (rd l1 (i : Int)) with
    | false => simp
    | true =>
      obtain ⟨j, hj, h1, h2⟩ := isCutI_nat hc
      rw [if_pos rfl, if_pos rfl, hj, l11Cut_f w (by omega) j h2]
      simp only [Option.bind_some, Int.toNat_natCast]
      exact ih (i + 1) k _ (by have := cutL_length w j h2; omega) (by omega) (by omega) (by omega)
theorem proved_l0 (l1 : List Int) (hl : l1.length ≤ 1099511627776) : ∀ (d i k : Nat) (w : List Int), w.length ≤ 1048576 → l1.length - i = d → i ≤ l1.length → d + 6 < k → impl_proved.l0 k w l1 (l1.length : Int) (i : Int) = some (proofB w (l1.drop i)) := by
  intro d
  induction d with
  | zero =>
    intro i k w hw hd hi hk
    obtain ⟨k, rfl⟩ : ∃ m, k = m + 1 := ⟨k - 1, by omega⟩
    simp only [impl_proved.l0]
    rw [if_neg (by omega), List.drop_of_length_le (by omega)]
    rfl
  | succ d ih =>
    intro i k w hw hd hi hk
    obtain ⟨k, rfl⟩ : ∃ m, k = m + 1 := ⟨k - 1, by omega⟩
    simp only [impl_proved.l0]
    have e : ((i : Int) + 1) = ((i + 1 : Nat) : Int) := by omega
    rw [if_pos (by omega), if_pos (by omega), if_pos (by omega), isCut_i w (by omega), drop_cons l1 i (by omega), wrap_id _ (by omega) (by omega), e]
    simp only [Option.bind_some, proofB]
    cases hc : isCutI w (rd l1 (i : Int)) with
    | false => simp
    | true =>
      obtain ⟨j, hj, h1, h2⟩ := isCutI_nat hc
      rw [if_pos rfl, if_pos rfl, hj, cut_f w (by omega) j h2 k (by omega)]
      simp only [Option.bind_some, Int.toNat_natCast]
      exact ih (i + 1) k _ (by have := cutL_length w j h2; omega) (by omega) (by omega) (by omega)
theorem l11Proof_f (w l1 : List Int) (hw : w.length ≤ 1048576) (hl : l1.length ≤ 1099511627776) (k : Nat) (hk : l1.length < k) : spec_l11Proof.f k w l1 = some (proofB w l1) := by
  unfold spec_l11Proof.f
  exact l11Proof_l0 l1 hl l1.length 0 k w hw (by omega) (by omega) hk
theorem proved_f (w l1 : List Int) (hw : w.length ≤ 1048576) (hl : l1.length ≤ 1099511627776) (k : Nat) (hk : l1.length + 6 < k) : impl_proved.f k w l1 = some (proofB w l1) := by
  unfold impl_proved.f
  exact proved_l0 l1 hl l1.length 0 k w hw (by omega) (by omega) hk
theorem IsProof_agree (l0 l1 : List Int) (hl : l0.length ≤ 1048576) (hl1 : l1.length ≤ 1048576) : ∃ K r1 r2, ∀ k, K ≤ k → spec_IsProof.f k l0 l1 = some (r1, r2) ∧ impl_IsProof.f k l0 l1 = some (r1, r2) := by
  cases hb : wordB l0 with
  | false =>
    refine ⟨2 * l0.length + 3, false, false, fun k hk => ?_⟩
    unfold spec_IsProof.f impl_IsProof.f
    rw [l2Word_f l0 (by omega) k (by omega), isWord_f, hb]
    simp
  | true =>
    refine ⟨2 * l0.length + l1.length + 10, proofB l0 l1, true, fun k hk => ?_⟩
    unfold spec_IsProof.f impl_IsProof.f
    rw [l2Word_f l0 (by omega) k (by omega), isWord_f, hb]
    simp only [Option.bind_some, if_true]
    rw [l11Proof_f l0 l1 hl (by omega) k (by omega), proved_f l0 l1 hl (by omega) k (by omega)]
    simp
end Go.Proofs.Ytgifhmjbmnopcaa.Q
