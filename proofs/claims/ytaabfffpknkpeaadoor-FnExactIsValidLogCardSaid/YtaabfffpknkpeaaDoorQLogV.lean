import Derived.Test.YtaabfffpknkpeaaDoorPx15
import Derived.Test.YtaabfffpknkpeaaDoorQLogD
/- Recovering and making durable: reference and program answer the same. -/
namespace Go.Proofs.YtaabfffpknkpeaaDoor.Q
open Go.RowKit Go.Proofs.YtaabfffpknkpeaaDoor.Px Go.Proofs.YtaabfffpknkpeaaDoor.Giv Go.Proofs.YtaabfffpknkpeaaDoorW.PrintWords Go.Proofs.YtaabfffpknkpeaaDoorW.PrintLast Go.Proofs.YtaabfffpknkpeaaDoorW.PrintMore
set_option linter.unusedVariables false
set_option linter.unusedSimpArgs false
attribute [local irreducible] encT sealT recT digs
theorem IsValidLog_agree (d p : ByteArray) (c : Int) (hd : d.size + p.size ≤ 1048576) : ∃ K r, ∀ k, K ≤ k → spec_IsValidLog.f k d p c = some r ∧ impl_IsValidLog.f k d p c = some r := by
  refine ⟨250301, validB d p c, fun k hk => ?_⟩
  refine ⟨?_, impl_valid_log_f d p c hd k (by omega)⟩
  unfold spec_IsValidLog.f
  rw [spec_valid_f d p c hd k (by omega)]
  rfl
end Go.Proofs.YtaabfffpknkpeaaDoor.Q
