import Derived.Test.YtaabfffpknkpeaaDoorPx9
import Derived.Test.YtaabfffpknkpeaaDoorPx11
import Derived.Test.YtaabfffpknkpeaaDoorQLogE
/- Recovering and making durable: reference and program answer the same. -/
namespace Go.Proofs.YtaabfffpknkpeaaDoor.Q
open Go.RowKit Go.Proofs.YtaabfffpknkpeaaDoor.Px Go.Proofs.YtaabfffpknkpeaaDoor.Giv Go.Proofs.YtaabfffpknkpeaaDoorW.PrintWords Go.Proofs.YtaabfffpknkpeaaDoorW.PrintLast Go.Proofs.YtaabfffpknkpeaaDoorW.PrintMore
set_option linter.unusedVariables false
set_option linter.unusedSimpArgs false
attribute [local irreducible] encT sealT recT digs
theorem RecoverLog_agree (s : ByteArray) (hs : s.size ≤ 1048576) : ∃ K r1 r2 r3 r4 r5, ∀ k, K ≤ k → spec_RecoverLog.f k s = some (r1, r2, r3, r4, r5) ∧ impl_RecoverLog.f k s = some (r1, r2, r3, r4, r5) := by
  by_cases h0 : (s.size : Int) > 30000
  · refine ⟨0, ⟨#[]⟩, ⟨#[]⟩, 0, 0, false, fun k _ => ?_⟩
    unfold spec_RecoverLog.f impl_RecoverLog.f
    rw [if_pos h0, if_pos h0]
    exact ⟨rfl, rfl⟩
  · refine ⟨250301, s.extract 0 (total 0 (recs 60 s 0)), ⟨#[]⟩, ((recs 60 s 0).length : Int), ((total 0 (recs 60 s 0) : Nat) : Int), true, fun k hk => ?_⟩
    have g1 : s.size ≤ 100000 := by omega
    have g4 := ends_long s
    have g5 : (((recs 60 s 0).map recS).length : Int) < (((0 :: ends 0 0 (recs 60 s 0)).map natI).length : Int) := by rw [g4.1, List.length_map]; omega
    have g6 := total_le 60 s 0
    unfold spec_RecoverLog.f impl_RecoverLog.f
    rw [if_neg h0, if_neg h0, open_f s g1 k (by omega), recordsOf_f s g1 k (by omega), Option.bind_some, Option.bind_some, if_pos (Int.natCast_nonneg _), if_pos (Int.ofNat_le.2 g6), if_pos (Int.natCast_nonneg _), if_pos g5, ends_at, if_pos (Int.natCast_nonneg _), if_pos (Int.ofNat_le.2 g6), Int.toNat_natCast, List.length_map]
    exact ⟨rfl, rfl⟩
end Go.Proofs.YtaabfffpknkpeaaDoor.Q
