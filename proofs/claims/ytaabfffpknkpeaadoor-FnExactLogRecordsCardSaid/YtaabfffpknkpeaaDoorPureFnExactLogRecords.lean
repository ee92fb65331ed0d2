/- What is proved: for all arguments the program's LogRecords returns what the reference's returns, shares no memory with its argument, changes none, and answers the same again (the law FnExactLogRecords as plain Lean); no condition. -/
import Derived.Test.YtaabfffpknkpeaaDoorPx21
import Derived.Test.YtaabfffpknkpeaaDoorPx15
import Derived.Test.YtaabfffpknkpeaaDoorQLogM
import Derived.Test.YtaabfffpknkpeaaDoorQLogL
namespace Go.Proofs.YtaabfffpknkpeaaDoor.Pure
open Go.RowKit Go.Proofs.YtaabfffpknkpeaaDoor.Px Go.Proofs.YtaabfffpknkpeaaDoor.Giv Go.Proofs.YtaabfffpknkpeaaDoorW.PrintWords Go.Proofs.YtaabfffpknkpeaaDoorW.PrintLast Go.Proofs.YtaabfffpknkpeaaDoor.Q
set_option linter.unusedVariables false
set_option linter.unusedSimpArgs false
theorem obind {A B : Type} (a : A) (f : A → Option B) : (some a).bind f = f a := Eq.trans (Option.bind_some a f) rfl
theorem szl_fits (x y : ByteArray) (z : Int) (h : x.size + y.size ≤ 1048576) : laws_szLog.f x y z 1048576 = some (1048576 - (x.size : Int) - (y.size : Int)) := by
  unfold laws_szLog.f
  rw [wrap_id (1048576 - (x.size : Int)) (by omega) (by omega), if_neg (by omega), wrap_id (1048576 - (x.size : Int) - (y.size : Int)) (by omega) (by omega), if_neg (by omega)]
theorem szl_over (x y : ByteArray) (z : Int) (hx : x.size ≤ 9223372036854775807) (hy : y.size ≤ 9223372036854775807) (h : ¬ x.size + y.size ≤ 1048576) : ∃ v, laws_szLog.f x y z 1048576 = some v ∧ v < 0 := by
  unfold laws_szLog.f
  by_cases h1 : x.size ≤ 1048576
  · rw [wrap_id (1048576 - (x.size : Int)) (by omega) (by omega), if_neg (by omega), wrap_id (1048576 - (x.size : Int) - (y.size : Int)) (by omega) (by omega), if_pos (by omega)]
    exact ⟨-1, rfl, by omega⟩
  · rw [wrap_id (1048576 - (x.size : Int)) (by omega) (by omega), if_pos (by omega)]
    exact ⟨-1, rfl, by omega⟩
theorem FnExactLogRecords : laws_FnExactLogRecords.Pure := by
  intro a0_0 a0_1 a0_2 hy0 hy1 hy2
  simp only [maxLen] at *
  by_cases hz0 : a0_0.size + a0_1.size ≤ 1048576
  rotate_left
  · obtain ⟨v, hv, hn⟩ := szl_over a0_0 a0_1 a0_2 (by omega) (by omega) hz0
    exact ⟨0, by unfold laws_FnExactLogRecords.f; rw [hv, obind, if_pos hn]⟩
  have hsz0 := szl_fits a0_0 a0_1 a0_2 hz0
  have hsn0 : ¬ (1048576 - (a0_0.size : Int) - (a0_1.size : Int) < 0) := by omega
  obtain ⟨K, r1, r2, hlenr1, hA⟩ := LogRecords_agree a0_0 a0_1 a0_2 (by omega)
  obtain ⟨M, hM⟩ : ∃ M, M = K + r1.length + 10 + 1 := ⟨_, rfl⟩
  have hS : ∀ j, spec_LogRecords.f (M + j) a0_0 a0_1 a0_2 = some (r1, r2) := fun j => (hA (M + j) (by omega)).1
  have hI : ∀ j, impl_LogRecords.f (M + j) a0_0 a0_1 a0_2 = some (r1, r2) := fun j => (hA (M + j) (by omega)).2
  have her1 : ∀ j, laws_eqLogRecordS.f (M + j) r1 r1 = some true := fun j => eqR_f r1 (by omega) _ (by omega)
  have hmr1 : ∀ j, laws_markLogRecordS.f (M + j) r1 1 = some (((2 * r1.length + 1 : Nat) : Int), marksR 0 r1.length) := fun j => markR_f r1 (by omega) _ (by omega)
  have hhr1 : ∀ j, laws_heldLogRecordS.f (M + j) (marksR 0 r1.length) 1 = some ((2 * r1.length + 1 : Nat) : Int) := fun j => heldR_f r1.length (by omega) _ (by omega)
  have hnr1 : ¬ (((2 * r1.length + 1 : Nat) : Int) < 0) := by omega
  clear hA hM
  refine ⟨M + 3, ?_⟩
  simp only [laws_FnExactLogRecords.f, laws_FnExactLogRecords.j0, laws_FnExactLogRecords.j1, laws_toLog.f, hsz0, hsn0, hS, hI, her1, hmr1, hhr1, hnr1, obind, if_true, if_false, bne_self_eq_false, Bool.false_eq_true, eq_self]
end Go.Proofs.YtaabfffpknkpeaaDoor.Pure
