import Derived.Test.YtgifhmjbmnopcaaPx2
import Derived.Test.YtgifhmjbmnopcaaPx1
import Derived.Test.YtgifhmjbmnopcaaQTak
/- Plain facts on nails, sets and tables. -/
namespace Go.Proofs.Ytgifhmjbmnopcaa.Q
open Go.RowKit Go.Proofs.Ytgifhmjbmnopcaa.Px Go.Proofs.Ytgifhmjbmnopcaa.Giv Go.Proofs.YtgifhmjbmnopcaaW.PrintWords Go.Proofs.YtgifhmjbmnopcaaW.PrintLast
set_option linter.unusedVariables false
set_option linter.unusedSimpArgs false
def nb (x : Int) : Int := (impl_nailBit.f x).getD 0
def orI (a b : Int) : Int := Go.bits .or .i64 a b
def nailsL : List Int := [1, 2, 3, 4, 5, 6]
def freeB (set x : Int) : Bool := Go.bits .and .i64 set (nb x) == 0
/-- The position behind a move. -/
def nextI (set x : Int) : Int := orI set (nb x)
theorem nail_cases {n : Int} (h1 : 1 ≤ n) (h2 : n ≤ 6) : n = 1 ∨ n = 2 ∨ n = 3 ∨ n = 4 ∨ n = 5 ∨ n = 6 := by omega
theorem nb_f {x : Int} (h1 : 1 ≤ x) (h2 : x ≤ 6) : impl_nailBit.f x = some (nb x) := by
  rcases nail_cases h1 h2 with rfl | rfl | rfl | rfl | rfl | rfl <;> decide +kernel
/-- Whether a word falls for a set. -/
def fallT (w : List Int) (s : Int) : Bool := (takW s w).isEmpty
theorem isEmpty_len (l : List Int) : ((l.length : Int) == 0) = l.isEmpty := by cases l <;> simp <;> omega
theorem falls_f {w : List Int} (hb : wordB w = true) {s : Int} (hs : setB s = true) (k : Nat) (hk : w.length < k) : impl_falls.f k w s = some (fallT w s) := by
  unfold impl_falls.f fallT
  rw [taken_f hb hs k hk, Option.bind_some, isEmpty_len]
theorem l3Falls_f {w : List Int} (hb : wordB w = true) {s : Int} (hs : setB s = true) (k : Nat) (hk : 2 * w.length + 1 < k) : spec_l3Falls.f k w s = some (fallT w s) := by
  unfold spec_l3Falls.f fallT
  rw [l3Take_f hb hs k hk, Option.bind_some, isEmpty_len]
end Go.Proofs.Ytgifhmjbmnopcaa.Q
