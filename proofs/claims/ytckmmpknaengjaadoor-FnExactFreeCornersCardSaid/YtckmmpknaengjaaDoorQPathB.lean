import Derived.Test.YtckmmpknaengjaaDoorPx9
import Derived.Test.YtckmmpknaengjaaDoorPx8
import Derived.Test.YtckmmpknaengjaaDoorPx6
import Derived.Test.YtckmmpknaengjaaDoorPx5
import Derived.Test.YtckmmpknaengjaaDoorPx10
import Derived.Test.YtckmmpknaengjaaDoorQPath
/- Plain facts on the ends of paths, closed paths and paths that are joined. -/
namespace Go.Proofs.YtckmmpknaengjaaDoor.Q
open Go.RowKit Go.Proofs.YtckmmpknaengjaaDoor.Px Go.Proofs.YtckmmpknaengjaaDoor.Giv Go.Proofs.YtckmmpknaengjaaDoorW.PrintWords Go.Proofs.YtckmmpknaengjaaDoorW.PrintLast Go.Proofs.YtckmmpknaengjaaDoorW.PrintMore
set_option linter.unusedVariables false
set_option linter.unusedSimpArgs false
def ptAt (s : ByteArray) (i : Nat) : Int × Int := (pts s).getD i (0, 0)
theorem rdA (s : ByteArray) (i : Nat) (h : i < (pts s).length) : rd_T23 ((pts s).map mkA) (i : Int) = mkA (ptAt s i) := by
  unfold rd_T23 ptAt
  rw [Int.toNat_natCast, List.getD_eq_getElem?_getD, List.getD_eq_getElem?_getD, List.getElem?_map, List.getElem?_eq_getElem h]
  rfl
theorem rdP (s : ByteArray) (i : Nat) (h : i < (pts s).length) : rd_T54 ((pts s).map mkP) (i : Int) = mkP (ptAt s i) := by
  unfold rd_T54 ptAt
  rw [Int.toNat_natCast, List.getD_eq_getElem?_getD, List.getD_eq_getElem?_getD, List.getElem?_map, List.getElem?_eq_getElem h]
  rfl
theorem path_size {s : ByteArray} (h : pathB s = true) : s.size ≤ 400 := by
  unfold pathB at h
  simp only [Bool.and_eq_true, decide_eq_true_eq] at h
  exact h.1
theorem spec_EndOf_f (s : ByteArray) (k : Nat) (hk : s.size < k) : spec_EndOf.f k s = some (if pathB s = true then ((ptAt s s.size).1, (ptAt s s.size).2, true) else (0, 0, false)) := by
  unfold spec_EndOf.f
  obtain ⟨o, h1, h2⟩ := l10Points_f s k hk
  rw [h1, Option.bind_some]
  cases hp : pathB s with
  | false => simp
  | true =>
    have h4 := path_size hp
    have ho := h2 hp
    have hl : o.length = s.size + 1 := by rw [ho, List.length_map, pts_length]
    have e : wrap64 ((o.length : Int) - 1) = ((s.size : Nat) : Int) := by rw [hl, wrap_id _ (by omega) (by omega)]; omega
    simp only [if_true]
    rw [e, if_pos (by omega), if_pos (by omega), ho, rdA s s.size (by rw [pts_length]; omega)]
    rfl
theorem impl_EndOf_f (s : ByteArray) (k : Nat) (hk : s.size + 3 < k) : impl_EndOf.f k s = some (if pathB s = true then ((ptAt s s.size).1, (ptAt s s.size).2, true) else (0, 0, false)) := by
  unfold impl_EndOf.f
  obtain ⟨o, h1, h2⟩ := readPath_f s k hk
  rw [h1, Option.bind_some]
  cases hp : pathB s with
  | false => simp
  | true =>
    have ho := h2 hp
    have hl : o.length = s.size + 1 := by rw [ho, List.length_map, pts_length]
    simp only [if_true]
    rw [if_pos (by omega), if_pos (by omega), ho, rdP s s.size (by rw [pts_length]; omega)]
    rfl
theorem EndOf_agree (s : ByteArray) (hl : s.size ≤ 1048576) : ∃ K r1 r2 r3, ∀ k, K ≤ k → spec_EndOf.f k s = some (r1, r2, r3) ∧ impl_EndOf.f k s = some (r1, r2, r3) := by
  cases hp : pathB s with
  | false => exact ⟨s.size + 4, 0, 0, false, fun k hk => ⟨by rw [spec_EndOf_f s k (by omega), hp]; rfl, by rw [impl_EndOf_f s k (by omega), hp]; rfl⟩⟩
  | true => exact ⟨s.size + 4, (ptAt s s.size).1, (ptAt s s.size).2, true, fun k hk => ⟨by rw [spec_EndOf_f s k (by omega), hp]; rfl, by rw [impl_EndOf_f s k (by omega), hp]; rfl⟩⟩
/-- A path is closed. -/
def closedB (s : ByteArray) : Bool := pathB s && ((ptAt s s.size).1 == 0 && ((ptAt s s.size).2 == 0))
theorem l10Closed_f (s : ByteArray) (k : Nat) (hk : s.size < k) : spec_l10Closed.f k s = some (closedB s) := by
  unfold spec_l10Closed.f closedB
  obtain ⟨o, h1, h2⟩ := l10Points_f s k hk
  rw [h1, Option.bind_some]
  cases hp : pathB s with
  | false => simp
  | true =>
    have h4 := path_size hp
    have ho := h2 hp
    have hl : o.length = s.size + 1 := by rw [ho, List.length_map, pts_length]
    have e : wrap64 ((o.length : Int) - 1) = ((s.size : Nat) : Int) := by rw [hl, wrap_id _ (by omega) (by omega)]; omega
    simp only [if_true]
    rw [e, if_pos (by omega), if_pos (by omega), ho, rdA s s.size (by rw [pts_length]; omega)]
    rfl
theorem impl_IsClosed_f (s : ByteArray) (k : Nat) (hk : s.size + 3 < k) : impl_IsClosed.f k s = some (closedB s, pathB s) := by
  unfold impl_IsClosed.f closedB
  rw [impl_EndOf_f s k hk, Option.bind_some]
  cases hp : pathB s with
  | false => simp
  | true => simp
theorem spec_IsClosed_f (s : ByteArray) (k : Nat) (hk : s.size < k) : spec_IsClosed.f k s = some (closedB s, pathB s) := by
  unfold spec_IsClosed.f
  rw [spec_IsPath_f s k hk, Option.bind_some, l10Closed_f s k hk]
  cases hp : pathB s with
  | false => simp [closedB, hp]
  | true => simp
theorem IsClosed_agree (s : ByteArray) (hl : s.size ≤ 1048576) : ∃ K r1 r2, ∀ k, K ≤ k → spec_IsClosed.f k s = some (r1, r2) ∧ impl_IsClosed.f k s = some (r1, r2) :=
  ⟨s.size + 4, closedB s, pathB s, fun k hk => ⟨spec_IsClosed_f s k (by omega), impl_IsClosed_f s k (by omega)⟩⟩
theorem JoinPaths_agree (s t : ByteArray) (hl : s.size ≤ 1048576) (hl1 : t.size ≤ 1048576) : ∃ K r1 r2, ∀ k, K ≤ k → spec_JoinPaths.f k s t = some (r1, r2) ∧ impl_JoinPaths.f k s t = some (r1, r2) := by
  refine ⟨s.size + t.size + 4, (if closedB s = true ∧ pathB t = true ∧ s.size + t.size ≤ 400 then s ++ t else ⟨#[]⟩), decide (closedB s = true ∧ pathB t = true ∧ s.size + t.size ≤ 400), fun k hk => ?_⟩
  unfold spec_JoinPaths.f impl_JoinPaths.f
  rw [l10Closed_f s k (by omega), impl_IsClosed_f s k (by omega), spec_IsPath_f t k (by omega), impl_IsPath_f t k (by omega), wrap_id _ (by omega) (by omega)]
  cases h1 : closedB s with
  | false => simp
  | true =>
    cases h2 : pathB t with
    | false => simp
    | true =>
      by_cases h3 : s.size + t.size ≤ 400
      · simp only [Option.bind_some, if_true]
        rw [if_neg (by omega), if_pos (by omega)]
        simp [h3]
      · simp only [Option.bind_some, if_true]
        rw [if_pos (by omega)]
        simp [h3]
end Go.Proofs.YtckmmpknaengjaaDoor.Q
