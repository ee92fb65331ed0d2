import Derived.Test.YtjaiienbbmfomaaPx7
import Derived.Test.YtjaiienbbmfomaaPx6
import Derived.Test.YtjaiienbbmfomaaPx5
import Derived.Test.YtjaiienbbmfomaaQTak
/- Plain facts on games: nails that are in, positions behind a move, moves that win. -/
namespace Go.Proofs.Ytjaiienbbmfomaa.Q
open Go.RowKit Go.Proofs.Ytjaiienbbmfomaa.Px Go.Proofs.Ytjaiienbbmfomaa.Giv Go.Proofs.YtjaiienbbmfomaaW.PrintWords Go.Proofs.YtjaiienbbmfomaaW.PrintLast
set_option linter.unusedVariables false
set_option linter.unusedSimpArgs false
def nb (x : Int) : Int := (impl_nailBit.f x).getD 0
def orI (a b : Int) : Int := Go.bits .or .i64 a b
def nailsL : List Int := [1, 2, 3, 4, 5, 6]
def freeB (set x : Int) : Bool := Go.bits .and .i64 set (nb x) == 0
/-- The nails that are in. -/
def inL (n set : Int) : List Int := (nailsL.filter fun x => decide (x ≤ n)).filter (freeB set)
/-- The position behind a move, and the set of all nails. -/
def nextI (set x : Int) : Int := orI set (nb x)
def allI (n : Int) : Int := wrap64 (shl .i64 1 n - 1)
theorem nail_cases {n : Int} (h1 : 1 ≤ n) (h2 : n ≤ 6) : n = 1 ∨ n = 2 ∨ n = 3 ∨ n = 4 ∨ n = 5 ∨ n = 6 := by omega
theorem nb_f {x : Int} (h1 : 1 ≤ x) (h2 : x ≤ 6) : impl_nailBit.f x = some (nb x) := by
  rcases nail_cases h1 h2 with rfl | rfl | rfl | rfl | rfl | rfl <;> decide +kernel
theorem inL_zero (set : Int) : inL 0 set = [] := by
  unfold inL
  rw [show nailsL.filter (fun x => decide (x ≤ 0)) = [] from by decide]
  rfl
theorem inL_step (set : Int) {j : Int} (h1 : 1 ≤ j) (h2 : j ≤ 6) : inL j set = inL (j - 1) set ++ (if freeB set j = true then [j] else []) := by
  have : nailsL.filter (fun x => decide (x ≤ j)) = nailsL.filter (fun x => decide (x ≤ j - 1)) ++ [j] := by
    rcases nail_cases h1 h2 with rfl | rfl | rfl | rfl | rfl | rfl <;> decide
  unfold inL
  rw [this, List.filter_append]
  congr 1
  by_cases h : freeB set j = true
  · rw [if_pos h]; simp [h]
  · rw [if_neg h]; simp [h]
theorem inL_nail {n set x : Int} (h : x ∈ inL n set) : 1 ≤ x ∧ x ≤ 6 ∧ x ≤ n := by
  unfold inL at h
  have h1 := (List.mem_filter.1 h).1
  have h2 := List.mem_filter.1 h1
  have h3 : x = 1 ∨ x = 2 ∨ x = 3 ∨ x = 4 ∨ x = 5 ∨ x = 6 := by simpa [nailsL] using h2.1
  have h4 := of_decide_eq_true h2.2
  omega
/-- A position of a game. -/
def posB (n set : Int) : Bool := decide (0 ≤ set ∧ set ≤ allI n)
def gameT (n s : Nat) : Bool := decide (allI n < s) || ((spec_l9Moves.f 10 (n : Int) (s : Int) == some (inL n s)) && (inL n s).all fun x => decide (0 ≤ nextI s x ∧ nextI s x ≤ allI n ∧ (inL n (nextI s x)).length < (inL n s).length) && (spec_l9Out.f s x == some (nextI s x)))
set_option maxRecDepth 100000 in
theorem game_all : ([1, 2, 3, 4, 5, 6].all fun n => (List.range 64).all fun s => gameT n s) = true := by decide +kernel
theorem allI_le {n : Int} (h1 : 1 ≤ n) (h2 : n ≤ 6) : 1 ≤ allI n ∧ allI n ≤ 63 := by
  rcases nail_cases h1 h2 with rfl | rfl | rfl | rfl | rfl | rfl <;> decide +kernel
theorem game_at {n set : Int} (h1 : 1 ≤ n) (h2 : n ≤ 6) (hp : posB n set = true) : spec_l9Moves.f 10 n set = some (inL n set) ∧ ∀ x ∈ inL n set, posB n (nextI set x) = true ∧ (inL n (nextI set x)).length < (inL n set).length ∧ spec_l9Out.f set x = some (nextI set x) := by
  have hp := of_decide_eq_true hp
  have ha := allI_le h1 h2
  obtain ⟨s, rfl⟩ := Int.eq_ofNat_of_zero_le hp.1
  obtain ⟨m, rfl⟩ := Int.eq_ofNat_of_zero_le (show 0 ≤ n by omega)
  have hm : m ∈ [1, 2, 3, 4, 5, 6] := by
    have : m = 1 ∨ m = 2 ∨ m = 3 ∨ m = 4 ∨ m = 5 ∨ m = 6 := by omega
    simpa using this
  have h := List.all_eq_true.1 (List.all_eq_true.1 game_all m hm) s (List.mem_range.2 (by omega))
  unfold gameT at h
  rw [decide_eq_false (by omega), Bool.false_or, Bool.and_eq_true] at h
  refine ⟨eq_of_beq h.1, fun x hx => ?_⟩
  have h3 := List.all_eq_true.1 h.2 x hx
  rw [Bool.and_eq_true] at h3
  have h4 := of_decide_eq_true h3.1
  exact ⟨decide_eq_true ⟨h4.1, h4.2.1⟩, h4.2.2, eq_of_beq h3.2⟩
theorem pos_range {n set : Int} (h1 : 1 ≤ n) (h2 : n ≤ 6) (hp : posB n set = true) : 0 ≤ set ∧ set ≤ 63 := by
  have := of_decide_eq_true hp
  have := allI_le h1 h2
  omega
theorem inL_le {n set : Int} : (inL n set).length ≤ 6 := by
  unfold inL
  have h1 := List.length_filter_le (freeB set) (nailsL.filter fun x => decide (x ≤ n))
  have h2 := List.length_filter_le (fun x => decide (x ≤ n)) nailsL
  have h3 : nailsL.length = 6 := rfl
  omega
/-- Whether a word falls for a set. -/
def fallT (w : List Int) (s : Int) : Bool := (takW s w).isEmpty
theorem isEmpty_len (l : List Int) : ((l.length : Int) == 0) = l.isEmpty := by cases l <;> simp <;> omega
theorem falls_f {w : List Int} (hb : wordB w = true) {s : Int} (hs : setB s = true) (k : Nat) (hk : w.length < k) : impl_falls.f k w s = some (fallT w s) := by
  unfold impl_falls.f fallT
  rw [taken_f hb hs k hk, Option.bind_some, isEmpty_len]
theorem l3Falls_f {w : List Int} (hb : wordB w = true) {s : Int} (hs : setB s = true) (k : Nat) (hk : 2 * w.length + 1 < k) : spec_l3Falls.f k w s = some (fallT w s) := by
  unfold spec_l3Falls.f fallT
  rw [l3Take_f hb hs k hk, Option.bind_some, isEmpty_len]
/-- A word, a number of nails and a position of a game that isn't ended. -/
def gameB (w : List Int) (n set : Int) : Bool := wordB w && decide (1 ≤ n ∧ n ≤ 6) && posB n set && (!fallT w set && fallT w (allI n))
end Go.Proofs.Ytjaiienbbmfomaa.Q
