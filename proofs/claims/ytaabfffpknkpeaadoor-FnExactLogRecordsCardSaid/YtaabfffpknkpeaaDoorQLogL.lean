import Derived.Test.YtaabfffpknkpeaaDoorPx19
import Derived.Test.YtaabfffpknkpeaaDoorQLogD
/- Recovering and making durable: reference and program answer the same. -/
namespace Go.Proofs.YtaabfffpknkpeaaDoor.Q
open Go.RowKit Go.Proofs.YtaabfffpknkpeaaDoor.Px Go.Proofs.YtaabfffpknkpeaaDoor.Giv Go.Proofs.YtaabfffpknkpeaaDoorW.PrintWords Go.Proofs.YtaabfffpknkpeaaDoorW.PrintLast Go.Proofs.YtaabfffpknkpeaaDoorW.PrintMore
set_option linter.unusedVariables false
set_option linter.unusedSimpArgs false
attribute [local irreducible] encT sealT recT digs
theorem LogRecords_agree (d p : ByteArray) (c : Int) (hd : d.size + p.size ≤ 1048576) : ∃ K r1 r2, r1.length ≤ 60 ∧ ∀ k, K ≤ k → spec_LogRecords.f k d p c = some (r1, r2) ∧ impl_LogRecords.f k d p c = some (r1, r2) := by
  cases h : validB d p c with
  | false =>
    refine ⟨250301, [], false, Nat.zero_le _, fun k hk => ?_⟩
    · unfold spec_LogRecords.f impl_LogRecords.f
      rw [spec_valid_f d p c hd k (by omega), impl_valid_log_f d p c hd k (by omega), h, Option.bind_some, Option.bind_some, if_neg (by simp), if_neg (by simp)]
      exact ⟨rfl, rfl⟩
  | true =>
    have h1 := valid_small h
    have g2 : (d ++ p).size ≤ 100000 := by rw [ByteArray.size_append]; omega
    refine ⟨250301, (recs 60 (d ++ p) 0).map recS, true, ?_, fun k hk => ?_⟩
    · rw [List.length_map]; exact recs_length 60 (d ++ p) 0
    · unfold spec_LogRecords.f impl_LogRecords.f
      rw [spec_valid_f d p c hd k (by omega), impl_valid_log_f d p c hd k (by omega), h, Option.bind_some, Option.bind_some, if_pos rfl, if_pos rfl, if_pos (by omega), if_pos (by omega), open_f (d ++ p) g2 k (by omega), recordsOf_f (d ++ p) g2 k (by omega)]
      exact ⟨rfl, rfl⟩
end Go.Proofs.YtaabfffpknkpeaaDoor.Q
