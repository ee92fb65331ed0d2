import Derived.Test.YtaabfffpknkpeaaDoorQLogC
/- Plain facts on where records end. -/
namespace Go.Proofs.YtaabfffpknkpeaaDoor.Q
open Go.RowKit Go.Proofs.YtaabfffpknkpeaaDoor.Px Go.Proofs.YtaabfffpknkpeaaDoor.Giv Go.Proofs.YtaabfffpknkpeaaDoorW.PrintWords Go.Proofs.YtaabfffpknkpeaaDoorW.PrintLast Go.Proofs.YtaabfffpknkpeaaDoorW.PrintMore
set_option linter.unusedVariables false
set_option linter.unusedSimpArgs false
attribute [local irreducible] encT sealT recT digs
theorem ends_at (s : ByteArray) : rd ((0 :: ends 0 0 (recs 60 s 0)).map natI) ((((recs 60 s 0).map recS).length : Nat) : Int) = ((total 0 (recs 60 s 0) : Nat) : Int) := by
  have h := ends_last (recs 60 s 0) 0 0
  rw [Nat.zero_add] at h
  unfold rd
  rw [Int.toNat_natCast, List.length_map, List.getD_eq_getElem?_getD, List.getElem?_map, h]
  rfl
theorem ends_long (s : ByteArray) : ((0 :: ends 0 0 (recs 60 s 0)).map natI).length = (recs 60 s 0).length + 1 ∧ (recs 60 s 0).length ≤ 60 := by
  rw [List.length_map, List.length_cons, ends_len]
  exact ⟨rfl, recs_length 60 s 0⟩
end Go.Proofs.YtaabfffpknkpeaaDoor.Q
