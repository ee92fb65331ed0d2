-- Written by gprint.py (wip/gprint.py of this repo), out of the translation. Not trusted: Lean checks it.
import Derived.Test.YtckmmpknaengjaaDoorPx0
namespace Go.Proofs.YtckmmpknaengjaaDoor.Px
end Go.Proofs.YtckmmpknaengjaaDoor.Px
namespace Go.Proofs.YtckmmpknaengjaaDoor.Giv
end Go.Proofs.YtckmmpknaengjaaDoor.Giv
namespace Go.Proofs.YtckmmpknaengjaaDoor.Px
open Go.Proofs.YtckmmpknaengjaaDoor.Giv
open Go.RowKit Go.Proofs.YtckmmpknaengjaaDoorW.PrintWords Go.Proofs.YtckmmpknaengjaaDoorW.PrintLast Go.Proofs.YtckmmpknaengjaaDoorW.PrintMore
attribute [local go_sem] max2_int min2_int max_two min_two max_three min_three max_four min_four   -- for this text's walks alone
set_option linter.unusedVariables false
set_option linter.unusedSimpArgs false

set_option maxHeartbeats 2000000 in
theorem eqA23 (d : Nat) (w : World) (x0 y0 : Int) (x1 y1 : Int) : (Op.equalIn (d + 2) 23 (.agg #[.int .i64 x0, .int .i64 x1]) (.agg #[.int .i64 y0, .int .i64 y1])).run Tryd.prog w = .ok (x0 == y0 && (x1 == y1)) w := by
  have hu := Tryd.underlying23
  have hu3 := Tryd.underlying3
  have ha3 := Tryd.isAgg3
  unfold Op.equalIn
  go_simp
  rw [show List.range' 0 2 = [0, 1] from rfl]
  simp only [List.forIn_cons, List.forIn_nil, Op.equalIn]
  cases h0 : (x0 == y0) <;> cases h1 : (x1 == y1) <;> (go_simp; try simp [h0, h1])
end Go.Proofs.YtckmmpknaengjaaDoor.Px
