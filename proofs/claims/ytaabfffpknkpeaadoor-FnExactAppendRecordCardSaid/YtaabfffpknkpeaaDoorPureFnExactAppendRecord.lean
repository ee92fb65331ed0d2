/- What is proved: for all arguments the program's AppendRecord returns what the reference's returns (the law FnExactAppendRecord as plain Lean); no condition. -/
import Derived.Test.YtaabfffpknkpeaaDoorPx19
import Derived.Test.YtaabfffpknkpeaaDoorPx14
import Derived.Test.YtaabfffpknkpeaaDoorPx1
import Derived.Test.YtaabfffpknkpeaaDoorPx15
import Derived.Test.YtaabfffpknkpeaaDoorPx4
import Derived.Test.YtaabfffpknkpeaaDoorPx12
import Derived.Test.YtaabfffpknkpeaaDoorQLogP
namespace Go.Proofs.YtaabfffpknkpeaaDoor.Pure
open Go.RowKit Go.Proofs.YtaabfffpknkpeaaDoor.Px Go.Proofs.YtaabfffpknkpeaaDoor.Giv Go.Proofs.YtaabfffpknkpeaaDoorW.PrintWords Go.Proofs.YtaabfffpknkpeaaDoorW.PrintLast Go.Proofs.YtaabfffpknkpeaaDoor.Q
set_option linter.unusedVariables false
set_option linter.unusedSimpArgs false
theorem obind {A B : Type} (a : A) (f : A → Option B) : (some a).bind f = f a := Eq.trans (Option.bind_some a f) rfl
theorem sz_log (x y : ByteArray) (z b : Int) (hb : 0 ≤ b) (hb2 : b ≤ 1048576) (hx : x.size ≤ 9223372036854775807) (hy : y.size ≤ 9223372036854775807) : (∃ v, laws_szLog.f x y z b = some v ∧ v < 0) ∨ (laws_szLog.f x y z b = some (b - (x.size : Int) - (y.size : Int)) ∧ 0 ≤ b - (x.size : Int) - (y.size : Int)) := by
  unfold laws_szLog.f
  by_cases h1 : (x.size : Int) ≤ b
  · rw [wrap_id (b - (x.size : Int)) (by omega) (by omega), if_neg (by omega), wrap_id (b - (x.size : Int) - (y.size : Int)) (by omega) (by omega)]
    by_cases h2 : b - (x.size : Int) - (y.size : Int) < 0
    · rw [if_pos h2]; exact .inl ⟨-1, rfl, by omega⟩
    · rw [if_neg h2]; exact .inr ⟨rfl, by omega⟩
  · rw [wrap_id (b - (x.size : Int)) (by omega) (by omega), if_pos (by omega)]
    exact .inl ⟨-1, rfl, by omega⟩
theorem sz_rec (x y : ByteArray) (b : Int) (hb : 0 ≤ b) (hb2 : b ≤ 1048576) (hx : x.size ≤ 9223372036854775807) (hy : y.size ≤ 9223372036854775807) : (∃ v, laws_szLogRecord.f x y b = some v ∧ v < 0) ∨ (laws_szLogRecord.f x y b = some (b - (x.size : Int) - (y.size : Int)) ∧ 0 ≤ b - (x.size : Int) - (y.size : Int)) := by
  unfold laws_szLogRecord.f
  by_cases h1 : (x.size : Int) ≤ b
  · rw [wrap_id (b - (x.size : Int)) (by omega) (by omega), if_neg (by omega), wrap_id (b - (x.size : Int) - (y.size : Int)) (by omega) (by omega)]
    by_cases h2 : b - (x.size : Int) - (y.size : Int) < 0
    · rw [if_pos h2]; exact .inl ⟨-1, rfl, by omega⟩
    · rw [if_neg h2]; exact .inr ⟨rfl, by omega⟩
  · rw [wrap_id (b - (x.size : Int)) (by omega) (by omega), if_pos (by omega)]
    exact .inl ⟨-1, rfl, by omega⟩
theorem FnExactAppendRecord : laws_FnExactAppendRecord.Pure := by
  intro d p n c r hd hp _ hc hr
  simp only [maxLen] at *
  rcases sz_log d p n 1048576 (by omega) (by omega) hd hp with ⟨v, hv, hn⟩ | ⟨h1, h2⟩
  · exact ⟨0, by unfold laws_FnExactAppendRecord.f; rw [hv, obind, if_pos hn]⟩
  have h3 : ¬ (1048576 - (d.size : Int) - (p.size : Int) < 0) := by omega
  rcases sz_rec c r (1048576 - (d.size : Int) - (p.size : Int)) h2 (by omega) hc hr with ⟨v, hv, hn⟩ | ⟨h4, h5⟩
  · exact ⟨0, by unfold laws_FnExactAppendRecord.f; rw [h1, obind, if_neg h3, hv, obind, if_pos hn]⟩
  have h6 : ¬ (1048576 - (d.size : Int) - (p.size : Int) - (c.size : Int) - (r.size : Int) < 0) := by omega
  obtain ⟨K, r1, r2, r3, r4, hA⟩ := AppendRecord_agree d p n c r (by omega) (by omega) (by omega)
  obtain ⟨e1, e2⟩ := hA K (Nat.le_refl _)
  refine ⟨K, ?_⟩
  have t1 : laws_toLog.f d p n = some (d, p, n) := rfl
  have t2 : laws_toLogRecord.f c r = some (c, r) := rfl
  have t3 : laws_eqLog.f r1 r2 r3 r1 r2 r3 = some true := by unfold laws_eqLog.f; rw [if_pos rfl, if_pos rfl, if_pos rfl]
  unfold laws_FnExactAppendRecord.f
  rw [h1, obind, if_neg h3, h4, obind, if_neg h6, t1, obind, t2, obind, e1, obind, obind, obind, e2, obind, t3, obind, if_pos rfl, if_pos rfl]
end Go.Proofs.YtaabfffpknkpeaaDoor.Pure
