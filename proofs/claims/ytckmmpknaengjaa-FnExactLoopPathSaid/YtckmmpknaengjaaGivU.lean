import Derived.Test.YtckmmpknaengjaaPx0
import Derived.Test.YtckmmpknaengjaaGivS
namespace Go.Proofs.Ytckmmpknaengjaa.Giv
set_option linter.unusedVariables false
set_option linter.unusedSimpArgs false
open Go.RowKit Go.Proofs.YtckmmpknaengjaaW.PrintWords Go.Proofs.YtckmmpknaengjaaW.PrintLast Go.Proofs.YtckmmpknaengjaaW.PrintMore
def strings_Repeat.f (a0 : ByteArray) (a1 : Int) : Option ByteArray := if 0 ≤ a1 ∧ a1 ≤ 9223372036854775807 ∧ a0.size * a1.toNat ≤ 140737488355328 then some ⟨(Lib.repeatL a0.data.toList a1.toNat).toArray⟩ else none
theorem strings_Repeat.calls (a0 : ByteArray) (a1 : Int) (r : ByteArray) (w : World) (h : strings_Repeat.f a0 a1 = some r) :
    Calls Try.prog 12 #[.string a0, .int .i64 a1] w fun e w' => e = .returned (.string r) ∧ Below w.heap.size w w' := by
  unfold strings_Repeat.f at h
  split at h
  · rename_i h1
    obtain ⟨c, rfl⟩ := Int.eq_ofNat_of_zero_le h1.1
    obtain rfl := Option.some.inj h
    rw [Int.toNat_natCast] at h1
    rw [Int.toNat_natCast]
    exact Try.strings_Repeat a0 c w (by omega) h1.2.2
  · cases h
end Go.Proofs.Ytckmmpknaengjaa.Giv
