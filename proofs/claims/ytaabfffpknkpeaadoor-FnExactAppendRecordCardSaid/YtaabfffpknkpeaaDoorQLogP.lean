import Derived.Test.YtaabfffpknkpeaaDoorPx18
import Derived.Test.YtaabfffpknkpeaaDoorQLogD
/- A record is appended: reference and program answer the same. -/
namespace Go.Proofs.YtaabfffpknkpeaaDoor.Q
open Go.RowKit Go.Proofs.YtaabfffpknkpeaaDoor.Px Go.Proofs.YtaabfffpknkpeaaDoor.Giv Go.Proofs.YtaabfffpknkpeaaDoorW.PrintWords Go.Proofs.YtaabfffpknkpeaaDoorW.PrintLast Go.Proofs.YtaabfffpknkpeaaDoorW.PrintMore
set_option linter.unusedVariables false
set_option linter.unusedSimpArgs false
attribute [local irreducible] encT sealT recT digs
theorem AppendRecord_agree (d p : ByteArray) (n : Int) (c r : ByteArray) (hd : d.size + p.size ≤ 1048576) (hc : c.size ≤ 1048576) (hr : r.size ≤ 1048576) : ∃ K r1 r2 r3 r4, ∀ k, K ≤ k → spec_AppendRecord.f k d p n c r = some (r1, r2, r3, r4) ∧ impl_AppendRecord.f k d p n c r = some (r1, r2, r3, r4) := by
  obtain ⟨K, hK⟩ : ∃ K, K = 250400 + c.size + r.size := ⟨_, rfl⟩
  cases h : validB d p n with
  | false =>
    refine ⟨K, d, p, n, 1, fun k hk => ?_⟩
    obtain ⟨k, rfl⟩ : ∃ m, k = m + 1 := ⟨k - 1, by omega⟩
    unfold spec_AppendRecord.f impl_AppendRecord.f
    rw [spec_valid_f d p n hd (k + 1) (by omega), impl_valid_log_f d p n hd (k + 1) (by omega), h, Option.bind_some, Option.bind_some, if_neg (by simp), if_neg (by simp), spec_AppendRecord.j0, impl_AppendRecord.j0, if_pos rfl, if_pos rfl]
    exact ⟨rfl, rfl⟩
  | true =>
    have hs := valid_small h
    obtain ⟨m, rfl⟩ := Int.eq_ofNat_of_zero_le hs.2.1
    cases hv : recB c r with
    | false =>
      refine ⟨K, d, p, (m : Int), 1, fun k hk => ?_⟩
      obtain ⟨k, rfl⟩ : ∃ q, k = q + 1 := ⟨k - 1, by omega⟩
      unfold spec_AppendRecord.f impl_AppendRecord.f
      rw [spec_valid_f d p m hd (k + 1) (by omega), impl_valid_log_f d p m hd (k + 1) (by omega), h, Option.bind_some, Option.bind_some, if_pos rfl, if_pos rfl, l12Record_f c r hc hr (k + 1) (by omega), impl_valid_f c r hc hr (k + 1) (by omega), hv, Option.bind_some, Option.bind_some, spec_AppendRecord.j0, impl_AppendRecord.j0, if_pos (show (!false) = true from rfl), if_pos (show (!false) = true from rfl)]
      exact ⟨rfl, rfl⟩
    | true =>
      by_cases h60 : (m : Int) = 60
      · refine ⟨K, d, p, (m : Int), 2, fun k hk => ?_⟩
        obtain ⟨k, rfl⟩ : ∃ q, k = q + 1 := ⟨k - 1, by omega⟩
        unfold spec_AppendRecord.f impl_AppendRecord.f
        rw [spec_valid_f d p m hd (k + 1) (by omega), impl_valid_log_f d p m hd (k + 1) (by omega), h, Option.bind_some, Option.bind_some, if_pos rfl, if_pos rfl, l12Record_f c r hc hr (k + 1) (by omega), impl_valid_f c r hc hr (k + 1) (by omega), hv, Option.bind_some, Option.bind_some, spec_AppendRecord.j0, impl_AppendRecord.j0, if_neg (show ¬ (!true) = true by simp), if_neg (show ¬ (!true) = true by simp), if_pos h60, if_pos h60]
        exact ⟨rfl, rfl⟩
      · have hm : m < 60 := by omega
        have hz := encT_size hm hv
        have hw : wrap64 ((m : Int) + 1) = ((m + 1 : Nat) : Int) := wrap_succ m (by omega)
        have hp : p.size + (encT m c r).size ≤ 9223372036854775807 := by omega
        refine ⟨K, d, p ++ encT m c r, ((m + 1 : Nat) : Int), 0, fun k hk => ?_⟩
        obtain ⟨k, rfl⟩ : ∃ q, k = q + 1 := ⟨k - 1, by omega⟩
        unfold spec_AppendRecord.f impl_AppendRecord.f
        rw [spec_valid_f d p m hd (k + 1) (by omega), impl_valid_log_f d p m hd (k + 1) (by omega), h, Option.bind_some, Option.bind_some, if_pos rfl, if_pos rfl, l12Record_f c r hc hr (k + 1) (by omega), impl_valid_f c r hc hr (k + 1) (by omega), hv, Option.bind_some, Option.bind_some, spec_AppendRecord.j0, impl_AppendRecord.j0, if_neg (show ¬ (!true) = true by simp), if_neg (show ¬ (!true) = true by simp), if_neg h60, if_neg h60, line_f (by omega) hv k (by omega), encode_f hm hv k (by omega), Option.bind_some, Option.bind_some, if_pos hp, hw]
        exact ⟨rfl, rfl⟩
end Go.Proofs.YtaabfffpknkpeaaDoor.Q
