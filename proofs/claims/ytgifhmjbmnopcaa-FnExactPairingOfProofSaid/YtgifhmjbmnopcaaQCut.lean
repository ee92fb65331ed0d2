import Derived.Test.YtgifhmjbmnopcaaPx2
import Derived.Test.YtgifhmjbmnopcaaPx1
import Derived.Test.YtgifhmjbmnopcaaQCuts
import Derived.Test.YtgifhmjbmnopcaaQCat
import Derived.Test.YtgifhmjbmnopcaaPx5
import Derived.Test.YtgifhmjbmnopcaaPx5
import Derived.Test.YtgifhmjbmnopcaaPx5
import Derived.Test.YtgifhmjbmnopcaaPx6
import Derived.Test.YtgifhmjbmnopcaaPx7
/- Plain facts on a cut that is made. -/
namespace Go.Proofs.Ytgifhmjbmnopcaa.Q
open Go.RowKit Go.Proofs.Ytgifhmjbmnopcaa.Px Go.Proofs.Ytgifhmjbmnopcaa.Giv Go.Proofs.YtgifhmjbmnopcaaW.PrintWords Go.Proofs.YtgifhmjbmnopcaaW.PrintLast
set_option linter.unusedVariables false
set_option linter.unusedSimpArgs false
def cutL (w : List Int) (i : Nat) : List Int := w.take i ++ w.drop (i + 2)
theorem cutL_length (w : List Int) (i : Nat) (h : i + 2 ≤ w.length) : (cutL w i).length + 2 = w.length := by
  unfold cutL
  rw [List.length_append, List.length_take, List.length_drop]
  omega
theorem own_f (l : List Int) (hl : l.length < 17592186044416) : spec_l1Own.f l = some l := by
  unfold spec_l1Own.f
  simp only [Option.bind_some, List.length_nil, Nat.zero_add, List.nil_append]
  rw [if_pos hl]
theorem l11Cut_f (w : List Int) (hl : w.length < 17592186044416) (i : Nat) (h : i + 2 ≤ w.length) : spec_l11Cut.f w (i : Int) = some (cutL w i) := by
  unfold spec_l11Cut.f
  have e : wrap64 ((i : Int) + 2) = ((i + 2 : Nat) : Int) := by rw [wrap_id _ (by omega) (by omega)]; omega
  have h1 : (w.take i).length < 17592186044416 := by rw [List.length_take]; omega
  have h2 : (w.take i).length + (w.drop (i + 2)).length < 17592186044416 := by rw [List.length_take, List.length_drop]; omega
  rw [if_pos (by omega), if_pos (by omega), Int.toNat_natCast, own_f _ h1]
  rw [Option.bind_some, e, if_pos (by omega), if_pos (by omega), Int.toNat_natCast, if_pos h2]
  rfl
theorem cut_f (w : List Int) (hl : w.length < 1099511627776) (i : Nat) (h : i + 2 ≤ w.length) (k : Nat) (hk : 5 < k) : impl_cut.f k w (i : Int) = some (cutL w i) := by
  unfold impl_cut.f
  have e : ((i : Int) + 2) = ((i + 2 : Nat) : Int) := by omega
  rw [if_pos (by omega), if_pos (by omega), wrap_id _ (by omega) (by omega), e, if_pos (by omega), if_pos (by omega), Int.toNat_natCast, Int.toNat_natCast, Concat_f _ (by simp) (by simp; omega) k (by simpa using hk)]
  simp [cutL]
theorem isCutB_bound {w : List Int} {i : Nat} (h : isCutB w i = true) : i + 2 ≤ w.length := by
  unfold isCutB at h
  simp only [Bool.and_eq_true, decide_eq_true_eq] at h
  omega
theorem can_f (w : List Int) (hl : w.length ≤ 35184372088832) (i : Nat) : spec_l11Can.f w (i : Int) = some (isCutB w i) := by
  unfold spec_l11Can.f spec_l1In.f isCutB
  rw [if_pos (by omega), wrap_id _ (by omega) (by omega)]
  simp only [Option.bind_some]
  by_cases h : i + 1 < w.length
  · rw [if_pos (by simp; omega), if_pos (by omega), if_pos (by omega), wrap_id _ (by omega) (by omega), if_pos (by omega), if_pos (by omega)]
    simp [h]
  · rw [if_neg (by simp; omega)]
    simp [h]
theorem can_neg (w : List Int) (i : Int) (h : i < 0) : spec_l11Can.f w i = some false := by
  unfold spec_l11Can.f spec_l1In.f
  rw [if_neg (by omega)]
  simp
/-- A place, of whatever sign, is a cut. -/
def isCutI (w : List Int) (i : Int) : Bool := decide (0 ≤ i) && isCutB w i.toNat
theorem can_i (w : List Int) (hl : w.length ≤ 35184372088832) (i : Int) : spec_l11Can.f w i = some (isCutI w i) := by
  unfold isCutI
  by_cases h : 0 ≤ i
  · obtain ⟨j, rfl⟩ := Int.eq_ofNat_of_zero_le h
    have := can_f w hl j
    simpa [h] using this
  · rw [can_neg w i (by omega)]
    simp [h]
theorem isCut_i (w : List Int) (hl : w.length ≤ 35184372088832) (i : Int) : impl_isCut.f w i = some (isCutI w i) := by
  unfold isCutI
  by_cases h : 0 ≤ i
  · obtain ⟨j, rfl⟩ := Int.eq_ofNat_of_zero_le h
    have := isCut_f w hl j
    simpa [h] using this
  · rw [isCut_neg w i (by omega)]
    simp [h]
theorem isCutI_nat {w : List Int} {i : Int} (h : isCutI w i = true) : ∃ j : Nat, i = (j : Int) ∧ isCutB w j = true ∧ j + 2 ≤ w.length := by
  unfold isCutI at h
  simp only [Bool.and_eq_true, decide_eq_true_eq] at h
  obtain ⟨j, rfl⟩ := Int.eq_ofNat_of_zero_le h.1
  exact ⟨j, rfl, h.2, isCutB_bound h.2⟩
theorem MakeCut_agree (l0 : List Int) (a1 : Int) (hl : l0.length ≤ 1048576) : ∃ K r b, r.length ≤ 1099511627776 ∧ ∀ k, K ≤ k → spec_MakeCut.f k l0 a1 = some (r, b) ∧ impl_MakeCut.f k l0 a1 = some (r, b) := by
  cases hb : wordB l0 with
  | false =>
    refine ⟨2 * l0.length + 3, [], false, by simp, fun k hk => ?_⟩
    unfold spec_MakeCut.f impl_MakeCut.f
    rw [l2Word_f l0 (by omega) k (by omega), isWord_f, hb]
    simp
  | true =>
    cases hc : isCutI l0 a1 with
    | false =>
      refine ⟨2 * l0.length + 3, [], false, by simp, fun k hk => ?_⟩
      unfold spec_MakeCut.f impl_MakeCut.f
      rw [l2Word_f l0 (by omega) k (by omega), isWord_f, hb, can_i l0 (by omega), isCut_i l0 (by omega), hc]
      simp
    | true =>
      obtain ⟨j, rfl, h1, h2⟩ := isCutI_nat hc
      refine ⟨2 * l0.length + 10, cutL l0 j, true, by have := cutL_length l0 j h2; omega, fun k hk => ?_⟩
      unfold spec_MakeCut.f impl_MakeCut.f
      rw [l2Word_f l0 (by omega) k (by omega), isWord_f, hb, can_i l0 (by omega), isCut_i l0 (by omega), hc]
      simp only [Option.bind_some, if_true]
      rw [l11Cut_f l0 (by omega) j h2, cut_f l0 (by omega) j h2 k (by omega)]
      simp
end Go.Proofs.Ytgifhmjbmnopcaa.Q
