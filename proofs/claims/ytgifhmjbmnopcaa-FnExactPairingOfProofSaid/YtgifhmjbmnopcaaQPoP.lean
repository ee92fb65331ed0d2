import Derived.Test.YtgifhmjbmnopcaaPx23
import Derived.Test.YtgifhmjbmnopcaaQPOf
/- Plain facts on the pairing of a proof. -/
namespace Go.Proofs.Ytgifhmjbmnopcaa.Q
open Go.RowKit Go.Proofs.Ytgifhmjbmnopcaa.Px Go.Proofs.Ytgifhmjbmnopcaa.Giv Go.Proofs.YtgifhmjbmnopcaaW.PrintWords Go.Proofs.YtgifhmjbmnopcaaW.PrintLast
set_option linter.unusedVariables false
set_option linter.unusedSimpArgs false
theorem pop_l1 (l1 : List Int) (hl : l1.length ≤ 1048576) : ∀ (d i k : Nat) (out places : List Int), l1.length - i = d → i ≤ l1.length → d + 6 < k → places.length ≤ 1048576 → (∀ x ∈ places, 0 ≤ x ∧ x < (out.length : Int)) → fitL places.length (l1.drop i) →
    impl_PairingOfProof.l1 k out places l1 (l1.length : Int) (i : Int) = some (takenL out places (l1.drop i), true) := by
  intro d
  induction d with
  | zero =>
    intro i k out places hd hi hk hp hm hf
    obtain ⟨k, rfl⟩ : ∃ m, k = m + 1 := ⟨k - 1, by omega⟩
    rw [impl_PairingOfProof.l1, if_neg (by omega), List.drop_of_length_le (by omega)]
    rfl
  | succ d ih =>
    intro i k out places hd hi hk hp hm hf
    obtain ⟨k, rfl⟩ : ∃ m, k = m + 1 := ⟨k - 1, by omega⟩
    have e : ((i : Int) + 1) = ((i + 1 : Nat) : Int) := by omega
    rw [drop_cons l1 i (by omega)] at hf ⊢
    obtain ⟨h0, h1, h2⟩ := hf
    obtain ⟨j, hj⟩ := Int.eq_ofNat_of_zero_le h0
    rw [hj] at h0 h1
    have ej : ((j : Int) + 1) = ((j + 1 : Nat) : Int) := by omega
    have ma := hm _ (rd_mem places j (by omega))
    have mb := hm _ (rd_mem places (j + 1) (by omega))
    rw [impl_PairingOfProof.l1, if_pos (by omega), if_pos (by omega), if_pos (by omega), hj, if_pos (by omega), if_pos (by omega), wrap_id ((j : Int) + 1) (by omega) (by omega), if_pos (by omega), if_pos (by omega), ej, if_pos ma.1, if_pos ma.2, if_pos mb.1, if_pos mb.2]
    rw [cut_f places (by omega) j (by omega) k (by omega), Option.bind_some, wrap_id _ (by omega) (by omega), e]
    have hcl := cutL_length places j (by omega)
    rw [ih (i + 1) k _ _ (by omega) (by omega) (by omega) (by omega) (by
      intro x hx
      have := hm x (cutL_mem hx)
      simpa using this) (by rw [show (cutL places j).length = places.length - 2 from by omega]; exact h2)]
    simp only [takenL]
    rw [Int.toNat_natCast, ej]
theorem pop_l0 (n : Nat) (l1 out : List Int) (hw : n ≤ 1048576) (r : Option (List Int × Bool)) (K0 : Nat) (hr : ∀ k, K0 < k → impl_PairingOfProof.l1 k out (irange 0 n) l1 (l1.length : Int) 0 = r) : ∀ (d i k : Nat), n - i = d → i ≤ n → K0 + d + 1 < k →
    impl_PairingOfProof.l0 k l1 out (irange 0 i) (n : Int) (i : Int) = r := by
  intro d
  induction d with
  | zero =>
    intro i k hd hi hk
    obtain ⟨k, rfl⟩ : ∃ m, k = m + 1 := ⟨k - 1, by omega⟩
    rw [impl_PairingOfProof.l0, if_neg (by omega), show i = n from by omega, hr k (by omega)]
  | succ d ih =>
    intro i k hd hi hk
    obtain ⟨k, rfl⟩ : ∃ m, k = m + 1 := ⟨k - 1, by omega⟩
    have e : ((i : Int) + 1) = ((i + 1 : Nat) : Int) := by omega
    rw [impl_PairingOfProof.l0, if_pos (by omega), if_pos (by rw [irange_length]; omega), ← irange_concat, wrap_id _ (by omega) (by omega), e]
    exact ih (i + 1) k (by omega) (by omega) (by omega)
theorem takenL_length : ∀ (l out places : List Int), (takenL out places l).length = out.length
  | [], out, places => rfl
  | i :: rest, out, places => by
    simp only [takenL]
    rw [takenL_length]
    simp
theorem PairingOfProof_agree (l0 l1 : List Int) (hl : l0.length ≤ 1048576) (hl1 : l1.length ≤ 1048576) : ∃ K r b, r.length ≤ 1099511627776 ∧ ∀ k, K ≤ k → spec_PairingOfProof.f k l0 l1 = some (r, b) ∧ impl_PairingOfProof.f k l0 l1 = some (r, b) := by
  cases hb : wordB l0 with
  | false =>
    refine ⟨2 * l0.length + 3, [], false, by simp, fun k hk => ?_⟩
    obtain ⟨k, rfl⟩ : ∃ m, k = m + 1 := ⟨k - 1, by omega⟩
    unfold spec_PairingOfProof.f impl_PairingOfProof.f
    rw [l2Word_f l0 (by omega) _ (by omega), isWord_f, hb]
    simp [impl_PairingOfProof.j0]
  | true =>
    have h64 := (word_true l0 hb).1
    cases hp : proofB l0 l1 with
    | false =>
      refine ⟨2 * l0.length + l1.length + 10, [], false, by simp, fun k hk => ?_⟩
      obtain ⟨k, rfl⟩ : ∃ m, k = m + 1 := ⟨k - 1, by omega⟩
      unfold spec_PairingOfProof.f impl_PairingOfProof.f
      rw [l2Word_f l0 (by omega) _ (by omega), isWord_f, hb, Option.bind_some, Option.bind_some, if_pos rfl, if_pos rfl, l11Proof_f l0 l1 hl (by omega) _ (by omega), proved_f l0 l1 hl (by omega) _ (by omega), hp]
      simp [impl_PairingOfProof.j0]
    | true =>
      refine ⟨2 * l0.length + l1.length + 1000, takenOf l0.length l1, true, by unfold takenOf; rw [takenL_length, List.length_replicate]; omega, fun k hk => ?_⟩
      obtain ⟨k, rfl⟩ : ∃ m, k = m + 1 := ⟨k - 1, by omega⟩
      have hf := proof_fit l1 l0 hp
      unfold spec_PairingOfProof.f impl_PairingOfProof.f
      rw [l2Word_f l0 (by omega) _ (by omega), isWord_f, hb, Option.bind_some, Option.bind_some, if_pos rfl, if_pos rfl, l11Proof_f l0 l1 hl (by omega) _ (by omega), proved_f l0 l1 hl (by omega) _ (by omega), hp, Option.bind_some, Option.bind_some, if_pos rfl, taken_f l0 l1 (by omega) hl1 hf _ (by omega), Option.bind_some]
      rw [impl_PairingOfProof.j0, if_neg (by simp), unpaired_f l0.length (by omega), Option.bind_some]
      refine ⟨rfl, ?_⟩
      have e0 : ((0 : Nat) : Int) = 0 := rfl
      have := pop_l0 l0.length l1 (List.replicate l0.length (-1)) (by omega) (some (takenOf l0.length l1, true)) (l1.length + 7) (by
        intro k hk
        have := pop_l1 l1 hl1 l1.length 0 k (List.replicate l0.length (-1)) (irange 0 l0.length) (by omega) (by omega) (by omega) (by rw [irange_length]; omega) (by
          intro x hx
          have := irange_mem hx
          rw [List.length_replicate]
          omega) (by rw [irange_length]; exact hf)
        exact this) l0.length 0 k (by omega) (by omega) (by omega)
      exact this
end Go.Proofs.Ytgifhmjbmnopcaa.Q
