import Derived.Test.YtckmmpknaengjaaDoorPx11
import Derived.Test.YtckmmpknaengjaaDoorQPathB
/- Plain facts on the boxes of paths. -/
namespace Go.Proofs.YtckmmpknaengjaaDoor.Q
open Go.RowKit Go.Proofs.YtckmmpknaengjaaDoor.Px Go.Proofs.YtckmmpknaengjaaDoor.Giv Go.Proofs.YtckmmpknaengjaaDoorW.PrintWords Go.Proofs.YtckmmpknaengjaaDoorW.PrintLast Go.Proofs.YtckmmpknaengjaaDoorW.PrintMore
set_option linter.unusedVariables false
set_option linter.unusedSimpArgs false
theorem least_mn (a b : Int) : spec_l1Least.f a b = some (mn a b) := by
  unfold spec_l1Least.f mn
  by_cases h : a < b
  · rw [if_pos h, if_neg (by omega)]
  · rw [if_neg h]
    by_cases h2 : b < a
    · rw [if_pos h2]
    · rw [if_neg h2]; congr 1; omega
theorem most_mx (a b : Int) : spec_l1Most.f a b = some (mx a b) := by
  unfold spec_l1Most.f mx
  by_cases h : a > b
  · rw [if_pos h, if_neg (by omega)]
  · rw [if_neg h]
    by_cases h2 : a < b
    · rw [if_pos h2]
    · rw [if_neg h2]; congr 1; omega
/-- The box of points, from one on. -/
def boxF (s : ByteArray) : Nat → Nat → Int → Int → Int → Int → Int × Int × Int × Int × Bool
  | 0, _, a, b, c, e => (a, b, c, e, true)
  | d + 1, i, a, b, c, e => boxF s d (i + 1) (mn a (ptAt s i).1) (mx b (ptAt s i).1) (mn c (ptAt s i).2) (mx e (ptAt s i).2)
theorem spec_box_l0 (s : ByteArray) (hs : s.size ≤ 400) : ∀ (d i k : Nat) (a b c e : Int), (pts s).length - i = d → i ≤ (pts s).length → d < k → spec_BoxOf.l0 k ((pts s).map mkA) (i : Int) a b c e = some (boxF s d i a b c e) := by
  have hl : ((pts s).map mkA).length = (pts s).length := List.length_map _
  have hl2 := pts_length s
  intro d
  induction d with
  | zero =>
    intro i k a b c e hd hi hk
    obtain ⟨k, rfl⟩ : ∃ m, k = m + 1 := ⟨k - 1, by omega⟩
    rw [spec_BoxOf.l0, if_neg (by omega)]
    rfl
  | succ d ih =>
    intro i k a b c e hd hi hk
    obtain ⟨k, rfl⟩ : ∃ m, k = m + 1 := ⟨k - 1, by omega⟩
    have ih := ih (i + 1) k (mn a (ptAt s i).1) (mx b (ptAt s i).1) (mn c (ptAt s i).2) (mx e (ptAt s i).2) (by omega) (by omega) (by omega)
    have w : wrap64 ((i : Int) + 1) = ((i + 1 : Nat) : Int) := by have h_ := wrap_id ((i : Int) + 1) (by omega) (by omega); omega
    rw [spec_BoxOf.l0, if_pos (by omega), if_pos (by omega), rdA s i (by omega), least_mn, Option.bind_some, most_mx, Option.bind_some, least_mn, Option.bind_some, most_mx, Option.bind_some, w]
    exact ih
theorem impl_box_l0 (s : ByteArray) (hs : s.size ≤ 400) : ∀ (d i k : Nat) (a b c e : Int), (pts s).length - i = d → i ≤ (pts s).length → d < k → impl_BoxOf.l0 k ((pts s).map mkP) (((pts s).map mkP).length : Int) (i : Int) a b c e = some (boxF s d i a b c e) := by
  have hl : ((pts s).map mkP).length = (pts s).length := List.length_map _
  have hl2 := pts_length s
  intro d
  induction d with
  | zero =>
    intro i k a b c e hd hi hk
    obtain ⟨k, rfl⟩ : ∃ m, k = m + 1 := ⟨k - 1, by omega⟩
    rw [impl_BoxOf.l0, if_neg (by omega)]
    rfl
  | succ d ih =>
    intro i k a b c e hd hi hk
    obtain ⟨k, rfl⟩ : ∃ m, k = m + 1 := ⟨k - 1, by omega⟩
    have ih := ih (i + 1) k (mn a (ptAt s i).1) (mx b (ptAt s i).1) (mn c (ptAt s i).2) (mx e (ptAt s i).2) (by omega) (by omega) (by omega)
    have w : wrap64 ((i : Int) + 1) = ((i + 1 : Nat) : Int) := by have h_ := wrap_id ((i : Int) + 1) (by omega) (by omega); omega
    rw [impl_BoxOf.l0, if_pos (by omega), if_pos (by omega), if_pos (by omega), rdP s i (by omega), w]
    exact ih
theorem BoxOf_agree (s : ByteArray) (hl : s.size ≤ 1048576) : ∃ K r1 r2 r3 r4 r5, ∀ k, K ≤ k → spec_BoxOf.f k s = some (r1, r2, r3, r4, r5) ∧ impl_BoxOf.f k s = some (r1, r2, r3, r4, r5) := by
  cases hp : pathB s with
  | false =>
    refine ⟨s.size + 10, 0, 0, 0, 0, false, fun k hk => ?_⟩
    obtain ⟨o, h1, _⟩ := l10Points_f s k (by omega)
    obtain ⟨o2, h2, _⟩ := readPath_f s k (by omega)
    unfold spec_BoxOf.f impl_BoxOf.f
    rw [h1, h2, hp, Option.bind_some, Option.bind_some]
    exact ⟨rfl, rfl⟩
  | true =>
    have hs := path_size hp
    refine ⟨s.size + 10, (boxF s (pts s).length 0 0 0 0 0).1, (boxF s (pts s).length 0 0 0 0 0).2.1, (boxF s (pts s).length 0 0 0 0 0).2.2.1, (boxF s (pts s).length 0 0 0 0 0).2.2.2.1, (boxF s (pts s).length 0 0 0 0 0).2.2.2.2, fun k hk => ?_⟩
    obtain ⟨o, h1, e1⟩ := l10Points_f s k (by omega)
    obtain ⟨o2, h2, e2⟩ := readPath_f s k (by omega)
    have hl2 := pts_length s
    unfold spec_BoxOf.f impl_BoxOf.f
    rw [h1, h2, hp, Option.bind_some, Option.bind_some, e1 hp, e2 hp]
    have h3 := spec_box_l0 s hs (pts s).length 0 k 0 0 0 0 (by omega) (by omega) (by omega)
    have h4 := impl_box_l0 s hs (pts s).length 0 k 0 0 0 0 (by omega) (by omega) (by omega)
    exact ⟨h3, h4⟩
end Go.Proofs.YtckmmpknaengjaaDoor.Q
