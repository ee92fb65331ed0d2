import Derived.Test.YtgifhmjbmnopcaaPx6
import Derived.Test.YtgifhmjbmnopcaaPx24
import Derived.Test.YtgifhmjbmnopcaaQFind
import Derived.Test.YtgifhmjbmnopcaaPx28
import Derived.Test.YtgifhmjbmnopcaaPx28
/- Plain facts on the proofs in which each cut is the first one, or the last one. -/
namespace Go.Proofs.Ytgifhmjbmnopcaa.Q
open Go.RowKit Go.Proofs.Ytgifhmjbmnopcaa.Px Go.Proofs.Ytgifhmjbmnopcaa.Giv Go.Proofs.YtgifhmjbmnopcaaW.PrintWords Go.Proofs.YtgifhmjbmnopcaaW.PrintLast
set_option linter.unusedVariables false
set_option linter.unusedSimpArgs false
theorem LastProof_sstep (w out : List Int) (k j : Nat) (hl : w.length ≤ 64) (ho : out.length ≤ 64) (hk : w.length < k) (h0 : 0 < w.length) (hc : 0 < (cuts w).length) (hj : rd (cuts w) (((cuts w).length : Int) - 1) = (j : Int)) (hj2 : j + 2 ≤ w.length) : spec_l11Find.l0 (k + 1) w true out = spec_l11Find.l0 k (cutL w j) true (out ++ [(j : Int)]) := by
  have hcw : (cuts w).length ≤ w.length := cutsTo_length w w.length
  have hw1 : wrap64 (((cuts w).length : Int) - 1) = ((cuts w).length : Int) - 1 := wrap_id _ (by omega) (by omega)
  rw [spec_l11Find.l0, if_pos (by omega), l11Cuts_f w k hk (by omega), Option.bind_some, if_neg (by omega), if_pos (by omega)]
  rw [if_pos rfl, hw1, if_pos (by omega), if_pos (by omega)]
  rw [hj, if_pos (by omega), l11Cut_f w (by omega) j hj2, Option.bind_some]
theorem LastProof_istep (w out : List Int) (k j : Nat) (hw : wordB w = true) (hl : w.length ≤ 64) (ho : out.length ≤ 64) (hk : w.length + 6 < k) (h0 : 0 < w.length) (hc : 0 < (cuts w).length) (hj : rd (cuts w) (((cuts w).length : Int) - 1) = (j : Int)) (hj2 : j + 2 ≤ w.length) : impl_proof_at_impl_LastProof_1.l0 (k + 2) w out = impl_proof_at_impl_LastProof_1.l0 k (cutL w j) (out ++ [(j : Int)]) := by
  have hcw : (cuts w).length ≤ w.length := cutsTo_length w w.length
  have hw1 : wrap64 (((cuts w).length : Int) - 1) = ((cuts w).length : Int) - 1 := wrap_id _ (by omega) (by omega)
  have hz : (((cuts w).length : Int) == 0) = false := by rw [beq_eq_false_iff_ne]; omega
  rw [impl_proof_at_impl_LastProof_1.l0, CutsOf_w w (k + 1) (by omega) (by omega) hw, Option.bind_some]
  dsimp only
  rw [if_pos rfl, impl_proof_at_impl_LastProof_1.j1, hz, if_neg (by simp)]
  unfold impl_LastProof_1.f
  rw [hw1, if_pos (by omega), if_pos (by omega)]
  rw [Option.bind_some, hj, if_pos (by omega), cut_f w (by omega) j hj2 k (by omega), Option.bind_some]
theorem LastProof_l0 : ∀ (n : Nat) (w out : List Int), wordB w = true → w.length ≤ n → out.length + w.length ≤ 64 → ∃ K r b, r.length ≤ 64 ∧ ∀ k, K ≤ k → spec_l11Find.l0 k w true out = some (r, b) ∧ impl_proof_at_impl_LastProof_1.l0 k w out = some (r, b) := by
  intro n
  induction n with
  | zero =>
    intro w out hw hn hl
    refine ⟨3, out, true, by omega, fun k hk => ?_⟩
    obtain ⟨k, rfl⟩ : ∃ m, k = m + 2 := ⟨k - 2, by omega⟩
    have e : w = [] := List.eq_nil_of_length_eq_zero (by omega)
    subst e
    have hc : cuts [] = [] := rfl
    rw [spec_l11Find.l0, if_neg (by simp), impl_proof_at_impl_LastProof_1.l0, CutsOf_w [] (k + 1) (by simp) (by simp) hw, Option.bind_some]
    dsimp only
    rw [if_pos rfl, impl_proof_at_impl_LastProof_1.j1, hc, if_pos (by decide), if_neg (by simp)]
    exact ⟨rfl, rfl⟩
  | succ n ih =>
    intro w out hw hn hl
    by_cases h0 : w.length = 0
    · exact ih w out hw (by omega) hl
    · have hcw : (cuts w).length ≤ w.length := cutsTo_length w w.length
      by_cases hc : (cuts w).length = 0
      · refine ⟨w.length + 4, [], false, by simp, fun k hk => ?_⟩
        obtain ⟨k, rfl⟩ : ∃ m, k = m + 2 := ⟨k - 2, by omega⟩
        have hz : (((cuts w).length : Int) == 0) = true := by rw [beq_iff_eq]; omega
        rw [spec_l11Find.l0, if_pos (by omega), l11Cuts_f w (k + 1) (by omega) (by omega), Option.bind_some, if_pos (by omega)]
        rw [impl_proof_at_impl_LastProof_1.l0, CutsOf_w w (k + 1) (by omega) (by omega) hw, Option.bind_some]
        dsimp only
        rw [if_pos rfl, impl_proof_at_impl_LastProof_1.j1, hz, if_pos rfl, if_pos (by omega)]
        exact ⟨rfl, rfl⟩
      · have hm : rd (cuts w) (((cuts w).length : Int) - 1) ∈ cuts w := by
          have := rd_mem (cuts w) ((cuts w).length - 1) (by omega)
          rw [show ((((cuts w).length - 1) : Nat) : Int) = (((cuts w).length : Int) - 1) from by omega] at this
          exact this
        obtain ⟨j, hj, hj1, hj2⟩ := mem_cuts hm
        have hlen := cutL_length w j hj2
        obtain ⟨K, r, b, hr, hK⟩ := ih (cutL w j) (out ++ [(j : Int)]) (wordB_cut hw j) (by omega) (by rw [List.length_append, List.length_singleton]; omega)
        refine ⟨K + w.length + 10, r, b, hr, fun k hk => ?_⟩
        obtain ⟨k, rfl⟩ : ∃ m, k = m + 2 := ⟨k - 2, by omega⟩
        rw [LastProof_sstep w out (k + 1) j (by omega) (by omega) (by omega) (by omega) (by omega) hj hj2, LastProof_istep w out k j hw (by omega) (by omega) (by omega) (by omega) (by omega) hj hj2]
        exact ⟨(hK (k + 1) (by omega)).1, (hK k (by omega)).2⟩
theorem LastProof_agree (l0 : List Int) (hl : l0.length ≤ 1048576) : ∃ K r b, r.length ≤ 1099511627776 ∧ ∀ k, K ≤ k → spec_LastProof.f k l0 = some (r, b) ∧ impl_LastProof.f k l0 = some (r, b) := by
  cases hb : wordB l0 with
  | false =>
    refine ⟨2 * l0.length + 5, [], false, by simp, fun k hk => ?_⟩
    obtain ⟨k, rfl⟩ : ∃ m, k = m + 2 := ⟨k - 2, by omega⟩
    have hne : 0 < l0.length := by
      rcases Nat.eq_zero_or_pos l0.length with h | h
      · rw [List.eq_nil_of_length_eq_zero h] at hb
        exact absurd hb (by decide)
      · exact h
    have hCo : impl_CutsOf.f (k + 1) l0 = some ([], false) := by rw [CutsOf_f l0 (k + 1) (by omega) (by omega), hb]; rfl
    unfold spec_LastProof.f impl_LastProof.f impl_proof_at_impl_LastProof_1.f
    rw [l2Word_f l0 (by omega) _ (by omega), hb, Option.bind_some, if_neg (by simp), impl_proof_at_impl_LastProof_1.l0, hCo, Option.bind_some]
    dsimp only
    rw [if_neg (by simp), impl_proof_at_impl_LastProof_1.j1, if_pos rfl, if_pos (by omega)]
    exact ⟨rfl, rfl⟩
  | true =>
    obtain ⟨h1, h2⟩ := word_true l0 hb
    obtain ⟨K, r, b, hr, hK⟩ := LastProof_l0 l0.length l0 [] hb (Nat.le_refl _) (by simpa using h1)
    refine ⟨K + 2 * l0.length + 3, r, b, by omega, fun k hk => ?_⟩
    unfold spec_LastProof.f impl_LastProof.f spec_l11Find.f impl_proof_at_impl_LastProof_1.f
    rw [l2Word_f l0 (by omega) k (by omega), hb, (hK k (by omega)).2, Option.bind_some, if_pos rfl, (hK k (by omega)).1]
    exact ⟨rfl, rfl⟩
end Go.Proofs.Ytgifhmjbmnopcaa.Q
