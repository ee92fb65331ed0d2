import Derived.Test.YtgifhmjbmnopcaaQCut
import Derived.Test.YtgifhmjbmnopcaaPx9
import Derived.Test.YtgifhmjbmnopcaaPx9
import Derived.Test.YtgifhmjbmnopcaaPx9
import Derived.Test.YtgifhmjbmnopcaaPx9
/- Plain facts on the number of proofs: both sides go over the same cuts. -/
namespace Go.Proofs.Ytgifhmjbmnopcaa.Q
open Go.RowKit Go.Proofs.Ytgifhmjbmnopcaa.Px Go.Proofs.Ytgifhmjbmnopcaa.Giv Go.Proofs.YtgifhmjbmnopcaaW.PrintWords Go.Proofs.YtgifhmjbmnopcaaW.PrintLast
set_option linter.unusedVariables false
set_option linter.unusedSimpArgs false
theorem cuts_prefix (w : List Int) (i : Nat) : ∀ d, i + d = w.length → ∃ t, cuts w = cutsTo w i ++ t := by
  intro d h
  unfold cuts
  rw [← h]
  clear h
  induction d with
  | zero => exact ⟨[], by simp⟩
  | succ d ih =>
    obtain ⟨t, ht⟩ := ih
    rw [← Nat.add_assoc, cutsTo_succ]
    split
    · exact ⟨t ++ [((i + d : Nat) : Int)], by rw [ht, List.append_assoc]⟩
    · exact ⟨t, ht⟩
theorem cuts_at (w : List Int) (i : Nat) (hi : i < w.length) (h : isCutB w i = true) : rd (cuts w) ((cutsTo w i).length : Int) = (i : Int) ∧ (cutsTo w i).length < (cuts w).length ∧ (cutsTo w (i + 1)).length = (cutsTo w i).length + 1 := by
  obtain ⟨t, ht⟩ := cuts_prefix w (i + 1) (w.length - (i + 1)) (by omega)
  have hs := cutsTo_succ w i
  rw [if_pos h] at hs
  rw [hs] at ht
  have hlen : (cutsTo w i).length < (cuts w).length := by rw [ht]; simp
  refine ⟨?_, hlen, by rw [hs]; simp⟩
  rw [rd_get _ _ hlen]
  simp [ht]
theorem counts_agree : ∀ (n : Nat) (w : List Int), w.length ≤ n → w.length ≤ 1048576 → ∃ K r, ∀ k, K ≤ k → spec_l11Proofs.f k w = some r ∧ impl_countProofs.f k w = some r := by
  intro n
  induction n with
  | zero =>
    intro w hw hl
    refine ⟨1, 1, fun k hk => ?_⟩
    obtain ⟨k, rfl⟩ : ∃ m, k = m + 1 := ⟨k - 1, by omega⟩
    simp only [spec_l11Proofs.f, impl_countProofs.f]
    rw [if_pos (by omega), if_pos (by omega)]
    exact ⟨rfl, rfl⟩
  | succ n ih =>
    intro w hw hl
    by_cases h0 : w.length = 0
    · refine ⟨1, 1, fun k hk => ?_⟩
      obtain ⟨k, rfl⟩ : ∃ m, k = m + 1 := ⟨k - 1, by omega⟩
      simp only [spec_l11Proofs.f, impl_countProofs.f]
      rw [if_pos (by omega), if_pos (by omega)]
      exact ⟨rfl, rfl⟩
    · have key : ∀ (d i : Nat) (a : Int), w.length - i = d → i ≤ w.length → ∃ K r, ∀ k, K ≤ k → spec_l11Proofs.l0 k w a (cuts w) ((cutsTo w i).length : Int) = some r ∧ impl_countProofs.l0 k w a (w.length : Int) (i : Int) = some r := by
        intro d
        induction d with
        | zero =>
          intro i a hd hi
          refine ⟨1, a, fun k hk => ?_⟩
          obtain ⟨k, rfl⟩ : ∃ m, k = m + 1 := ⟨k - 1, by omega⟩
          simp only [spec_l11Proofs.l0, impl_countProofs.l0]
          have e : i = w.length := by omega
          rw [if_neg (by rw [e]; show ¬ ((cuts w).length : Int) < _; omega), if_neg (by omega)]
          exact ⟨rfl, rfl⟩
        | succ d ihd =>
          intro i a hd hi
          have e : ((i : Int) + 1) = ((i + 1 : Nat) : Int) := by omega
          cases hb : isCutB w i with
          | false =>
            obtain ⟨K, r, hK⟩ := ihd (i + 1) a (by omega) (by omega)
            have hs := cutsTo_succ w i
            rw [hb, if_neg (by simp)] at hs
            rw [hs] at hK
            refine ⟨K + 1, r, fun k hk => ⟨(hK k (by omega)).1, ?_⟩⟩
            obtain ⟨k, rfl⟩ : ∃ m, k = m + 1 := ⟨k - 1, by omega⟩
            simp only [impl_countProofs.l0]
            rw [if_pos (by omega), isCut_f w (by omega), hb, wrap_id _ (by omega) (by omega), e]
            simp only [Option.bind_some, Bool.false_eq_true, if_false]
            exact (hK k (by omega)).2
          | true =>
            obtain ⟨h1, h2, h3⟩ := cuts_at w i (by omega) hb
            have hb2 := isCutB_bound hb
            have hcl := cutL_length w i hb2
            obtain ⟨K1, r1, hK1⟩ := ih (cutL w i) (by omega) (by omega)
            obtain ⟨K2, r2, hK2⟩ := ihd (i + 1) (wrap64 (a + r1)) (by omega) (by omega)
            have hcw := cutsTo_length w w.length
            have hcc : (cuts w).length ≤ w.length := hcw
            refine ⟨K1 + K2 + 7, r2, fun k hk => ?_⟩
            obtain ⟨k, rfl⟩ : ∃ m, k = m + 1 := ⟨k - 1, by omega⟩
            simp only [spec_l11Proofs.l0, impl_countProofs.l0]
            rw [if_pos (by omega), if_pos (by omega), h1, l11Cut_f w (by omega) i hb2, if_pos (by omega), isCut_f w (by omega), hb]
            simp only [Option.bind_some, if_true]
            rw [cut_f w (by omega) i hb2 k (by omega), (hK1 k (by omega)).1]
            simp only [Option.bind_some]
            rw [(hK1 k (by omega)).2]
            simp only [Option.bind_some]
            rw [wrap_id (((cutsTo w i).length : Int) + 1) (by omega) (by omega), wrap_id ((i : Int) + 1) (by omega) (by omega), e]
            have e3 : (((cutsTo w i).length : Int) + 1) = ((cutsTo w (i + 1)).length : Int) := by omega
            rw [e3]
            exact hK2 k (by omega)
      obtain ⟨K, r, hK⟩ := key w.length 0 0 (by omega) (by omega)
      refine ⟨K + w.length + 2, r, fun k hk => ?_⟩
      obtain ⟨k, rfl⟩ : ∃ m, k = m + 1 := ⟨k - 1, by omega⟩
      simp only [spec_l11Proofs.f, impl_countProofs.f]
      rw [if_neg (by omega), if_neg (by omega), l11Cuts_f w k (by omega) (by omega)]
      simp only [Option.bind_some]
      exact hK k (by omega)
theorem CountProofs_agree (l0 : List Int) (hl : l0.length ≤ 1048576) : ∃ K r1 r2, ∀ k, K ≤ k → spec_CountProofs.f k l0 = some (r1, r2) ∧ impl_CountProofs.f k l0 = some (r1, r2) := by
  cases hb : wordB l0 with
  | false =>
    refine ⟨2 * l0.length + 3, 0, false, fun k hk => ?_⟩
    unfold spec_CountProofs.f impl_CountProofs.f
    rw [l2Word_f l0 (by omega) k (by omega), isWord_f, hb]
    simp
  | true =>
    by_cases h12 : (l0.length : Int) > 12
    · refine ⟨2 * l0.length + 3, 0, false, fun k hk => ?_⟩
      unfold spec_CountProofs.f impl_CountProofs.f
      rw [l2Word_f l0 (by omega) k (by omega), isWord_f, hb]
      simp only [Option.bind_some, if_true]
      rw [if_pos h12, if_pos h12]
      exact ⟨rfl, rfl⟩
    · obtain ⟨K, r, hK⟩ := counts_agree l0.length l0 (Nat.le_refl _) hl
      refine ⟨K + 2 * l0.length + 3, r, true, fun k hk => ?_⟩
      unfold spec_CountProofs.f impl_CountProofs.f
      rw [l2Word_f l0 (by omega) k (by omega), isWord_f, hb]
      simp only [Option.bind_some, if_true]
      rw [if_neg h12, if_neg h12, (hK k (by omega)).1, (hK k (by omega)).2]
      exact ⟨rfl, rfl⟩
end Go.Proofs.Ytgifhmjbmnopcaa.Q
