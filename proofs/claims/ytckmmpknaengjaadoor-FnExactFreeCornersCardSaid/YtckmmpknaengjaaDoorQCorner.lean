import Derived.Test.YtckmmpknaengjaaDoorPx23
import Derived.Test.YtckmmpknaengjaaDoorPx20
import Derived.Test.YtckmmpknaengjaaDoorPx19
import Derived.Test.YtckmmpknaengjaaDoorPx17
import Derived.Test.YtckmmpknaengjaaDoorPx16
import Derived.Test.YtckmmpknaengjaaDoorPx11
import Derived.Test.YtckmmpknaengjaaDoorQPathB
/- Plain facts on the corners of paths. -/
namespace Go.Proofs.YtckmmpknaengjaaDoor.Q
open Go.RowKit Go.Proofs.YtckmmpknaengjaaDoor.Px Go.Proofs.YtckmmpknaengjaaDoor.Giv Go.Proofs.YtckmmpknaengjaaDoorW.PrintWords Go.Proofs.YtckmmpknaengjaaDoorW.PrintLast Go.Proofs.YtckmmpknaengjaaDoorW.PrintMore
set_option linter.unusedVariables false
set_option linter.unusedSimpArgs false
theorem least_mn_c (a b : Int) : spec_l1Least.f a b = some (mn a b) := by
  unfold spec_l1Least.f mn
  by_cases h : a < b
  · rw [if_pos h, if_neg (by omega)]
  · rw [if_neg h]
    by_cases h2 : b < a
    · rw [if_pos h2]
    · rw [if_neg h2]; congr 1; omega
theorem nail_f (a : Int) : impl_isNail.f a = some (decide (1 ≤ a ∧ a ≤ 6)) := by
  unfold impl_isNail.f
  by_cases h : a ≥ 1
  · rw [if_pos h]
    congr 1
    rw [decide_eq_decide]
    omega
  · rw [if_neg h, decide_eq_false (by omega)]
def asd (s : ByteArray) (i : Nat) : Bool := decide (bt s (i : Int) = 108) || (bt s (i : Int) == 114)
theorem aside_f (b : Int) : impl_isAside.f b = some (decide (b = 108) || (b == 114)) := by
  unfold impl_isAside.f
  by_cases h : b = 108
  · rw [if_pos h, decide_eq_true h, Bool.true_or]
  · rw [if_neg h, decide_eq_false h, Bool.false_or]
theorem letters_at (s : ByteArray) : ∀ (d i : Nat), lettersFrom s d i = true → ∀ j, i ≤ j → j < i + d → okc (bt s (j : Int)) = true
  | 0, i, _, j, h1, h2 => by omega
  | d + 1, i, h, j, h1, h2 => by
    simp only [lettersFrom, Bool.and_eq_true] at h
    by_cases hj : j = i
    · subst hj; exact h.1
    · exact letters_at s d (i + 1) h.2 j (by omega) (by omega)
theorem path_letters {s : ByteArray} (h : pathB s = true) : ∀ j, j < s.size → okc (bt s (j : Int)) = true := by
  intro j hj
  unfold pathB at h
  rw [good_parts] at h
  simp only [Bool.and_eq_true] at h
  exact letters_at s s.size 0 h.2.1 j (by omega) (by omega)
theorem dy_aside (b : Int) (h : okc b = true) : (dyc b == 0) = (decide (b = 108) || (b == 114)) := by
  unfold okc at h
  simp only [Bool.or_eq_true, decide_eq_true_eq] at h
  rcases h with ((h | h) | h) | h <;> subst h <;> rfl
/-- There is a corner. -/
def cornB (s : ByteArray) (i : Nat) : Bool := decide (i + 1 < s.size) && (asd s i != asd s (i + 1))
def freeC (s : ByteArray) (i : Nat) : Bool := !decide (mn (ptAt s i).2 (ptAt s (i + 2)).2 = 0) || !decide (1 ≤ mn (ptAt s i).1 (ptAt s (i + 2)).1 ∧ mn (ptAt s i).1 (ptAt s (i + 2)).1 ≤ 6)
theorem w2 (i : Nat) (h : i ≤ 100000) : wrap64 ((i : Int) + 2) = ((i + 2 : Nat) : Int) := by have h_ := wrap_id ((i : Int) + 2) (by omega) (by omega); omega
theorem w1 (i : Nat) (h : i ≤ 100000) : wrap64 ((i : Int) + 1) = ((i + 1 : Nat) : Int) := by have h_ := wrap_id ((i : Int) + 1) (by omega) (by omega); omega
theorem wm2 (n : Nat) (h : n ≤ 100000) : wrap64 ((n : Int) - 2) = (n : Int) - 2 := wrap_id _ (by omega) (by omega)
theorem spec_corner_f {s : ByteArray} (hp : pathB s = true) (i : Nat) (hi : i ≤ 100000) (k : Nat) (hk : s.size + 1 < k) : spec_l10Corner.f k s (i : Int) = some (cornB s i) := by
  have hs := path_size hp
  obtain ⟨k, rfl⟩ : ∃ m, k = m + 1 := ⟨k - 1, by omega⟩
  have g1 := path_letters hp
  unfold spec_l10Corner.f cornB
  rw [spec_IsPath_f s (k + 1) (by omega), hp, Option.bind_some, if_pos rfl, wm2 s.size (by omega), in_f, Option.bind_some, spec_l10Corner.j0]
  by_cases h : i + 1 < s.size
  · have e : decide ((0 : Int) ≤ (i : Int) ∧ (i : Int) ≤ (s.size : Int) - 2) = true := decide_eq_true (by omega)
    have t1 : (i : Int) < (s.size : Int) := by omega
    have t2 : ((i + 1 : Nat) : Int) < (s.size : Int) := by omega
    have t3 : (0 : Int) ≤ (i : Int) := by omega
    have t4 : (0 : Int) ≤ ((i + 1 : Nat) : Int) := by omega
    rw [e, decide_eq_true h, if_neg (by simp), if_pos t3, if_pos t1, step_f, Option.bind_some, w1 i (by omega), if_pos t4, if_pos t2, step_f, Option.bind_some]
    simp only [Bool.true_and]
    rw [dy_aside _ (g1 i (by omega)), dy_aside _ (g1 (i + 1) h)]
    rfl
  · have e : decide ((0 : Int) ≤ (i : Int) ∧ (i : Int) ≤ (s.size : Int) - 2) = false := decide_eq_false (by omega)
    rw [e, decide_eq_false h, if_pos (show (!false) = true from rfl)]
    rfl
theorem spec_corner_neg {s : ByteArray} (i : Int) (hi : i < 0) (hs : s.size ≤ 1048576) (k : Nat) (hk : s.size + 1 < k) : spec_l10Corner.f k s i = some false := by
  obtain ⟨k, rfl⟩ : ∃ m, k = m + 1 := ⟨k - 1, by omega⟩
  unfold spec_l10Corner.f
  rw [spec_IsPath_f s (k + 1) (by omega), Option.bind_some]
  cases pathB s with
  | false => rw [if_neg (by simp), spec_l10Corner.j0, if_pos rfl]
  | true =>
    have e : wrap64 ((s.size : Int) - 2) = (s.size : Int) - 2 := wrap_id _ (by omega) (by omega)
    rw [if_pos rfl, e, in_f, decide_eq_false (by omega), Option.bind_some, spec_l10Corner.j0, if_pos (show (!false) = true from rfl)]
theorem spec_free_f {s : ByteArray} (hp : pathB s = true) (i : Nat) (hi : i + 1 < s.size) (k : Nat) (hk : s.size + 1 < k) : spec_l10Free.f k s (i : Int) = some (freeC s i) := by
  have hs := path_size hp
  have hl := pts_length s
  have hl2 : ((pts s).map mkA).length = (pts s).length := List.length_map _
  obtain ⟨o, h1, e1⟩ := l10Points_f s k (by omega)
  have t1 : (i : Int) < (((pts s).map mkA).length : Int) := by omega
  have t2 : ((i + 2 : Nat) : Int) < (((pts s).map mkA).length : Int) := by omega
  have t3 : (0 : Int) ≤ (i : Int) := by omega
  have t4 : (0 : Int) ≤ ((i + 2 : Nat) : Int) := by omega
  unfold spec_l10Free.f freeC
  rw [h1, Option.bind_some, e1 hp, if_pos t3, if_pos t1, w2 i (by omega), if_pos t4, if_pos t2, rdA s i (by omega), rdA s (i + 2) (by omega), least_mn_c, Option.bind_some, least_mn_c, Option.bind_some]
  show (if mn (ptAt s i).2 (ptAt s (i + 2)).2 = 0 then _ else _) = _
  by_cases h : mn (ptAt s i).2 (ptAt s (i + 2)).2 = 0
  · rw [if_pos h, decide_eq_true h, in_f, Option.bind_some]
    rfl
  · rw [if_neg h, decide_eq_false h]
    rfl
theorem impl_corner_f {s : ByteArray} (hp : pathB s = true) (i : Nat) (hi : i ≤ 100000) : impl_corner.f s ((pts s).map mkP) (i : Int) = some (cornB s i, cornB s i && freeC s i) := by
  have hs := path_size hp
  have hl := pts_length s
  have hl2 : ((pts s).map mkP).length = (pts s).length := List.length_map _
  unfold impl_corner.f
  have u0 : ¬ (i : Int) < 0 := by omega
  rw [if_neg u0, wm2 s.size (by omega)]
  by_cases h : i + 1 < s.size
  · have t0 : ¬ (i : Int) > (s.size : Int) - 2 := by omega
    have t1 : (i : Int) < (s.size : Int) := by omega
    have t2 : ((i + 1 : Nat) : Int) < (s.size : Int) := by omega
    have t3 : (0 : Int) ≤ (i : Int) := by omega
    have t4 : (0 : Int) ≤ ((i + 1 : Nat) : Int) := by omega
    have t5 : (i : Int) < (((pts s).map mkP).length : Int) := by omega
    have t6 : ((i + 2 : Nat) : Int) < (((pts s).map mkP).length : Int) := by omega
    have t7 : (0 : Int) ≤ ((i + 2 : Nat) : Int) := by omega
    have q1 := rdP s i (by omega)
    have q2 := rdP s (i + 2) (by omega)
    rw [if_neg t0, if_pos t3, if_pos t1, aside_f, Option.bind_some, w1 i (by omega), if_pos t4, if_pos t2, aside_f, Option.bind_some]
    have hc : cornB s i = (asd s i != asd s (i + 1)) := by unfold cornB; rw [decide_eq_true h, Bool.true_and]
    cases hq : asd s i == asd s (i + 1) with
    | true =>
      have hc2 : cornB s i = false := by rw [hc]; simpa using hq
      rw [if_pos (show ((decide (bt s (i : Int) = 108) || (bt s (i : Int) == 114)) == (decide (bt s ((i + 1 : Nat) : Int) = 108) || (bt s ((i + 1 : Nat) : Int) == 114))) = true from hq), hc2]
      rfl
    | false =>
      have hc2 : cornB s i = true := by rw [hc]; simpa using hq
      rw [if_neg (show ¬ ((decide (bt s (i : Int) = 108) || (bt s (i : Int) == 114)) == (decide (bt s ((i + 1 : Nat) : Int) = 108) || (bt s ((i + 1 : Nat) : Int) == 114))) = true from (by unfold asd at hq; rw [hq]; simp)), if_pos t5, w2 i (by omega), if_pos t7, if_pos t6, q1, q2, hc2, Bool.true_and]
      unfold freeC
      show (if mn (ptAt s i).2 (ptAt s (i + 2)).2 = 0 then _ else _) = _
      by_cases hz : mn (ptAt s i).2 (ptAt s (i + 2)).2 = 0
      · rw [if_pos hz, decide_eq_true hz, nail_f, Option.bind_some]
        rfl
      · rw [if_neg hz, decide_eq_false hz]
        rfl
  · have t0 : (i : Int) > (s.size : Int) - 2 := by omega
    have hc2 : cornB s i = false := by unfold cornB; rw [decide_eq_false h]; rfl
    rw [if_pos t0, hc2]
    rfl
/-- The free corners, from one on. -/
def freeL (s : ByteArray) : Nat → Nat → List Int
  | 0, _ => []
  | d + 1, i => if (cornB s i && freeC s i) = true then (i : Int) :: freeL s d (i + 1) else freeL s d (i + 1)
theorem freeL_length (s : ByteArray) : ∀ (d i : Nat), (freeL s d i).length ≤ d
  | 0, _ => Nat.le_refl _
  | d + 1, i => by
    have := freeL_length s d (i + 1)
    simp only [freeL]
    split
    · rw [List.length_cons]; omega
    · omega
theorem impl_free_l0 {s : ByteArray} (hp : pathB s = true) : ∀ (d i k : Nat) (out : List Int), s.size - i = d → i ≤ s.size → d < k → out.length ≤ i → impl_FreeCorners.l0 k s ((pts s).map mkP) out (s.size : Int) (i : Int) = some (out ++ freeL s d i, true) := by
  have hs := path_size hp
  intro d
  induction d with
  | zero =>
    intro i k out hd hi hk ho
    obtain ⟨k, rfl⟩ : ∃ m, k = m + 1 := ⟨k - 1, by omega⟩
    rw [impl_FreeCorners.l0, if_neg (by omega)]
    simp [freeL]
  | succ d ih =>
    intro i k out hd hi hk ho
    obtain ⟨k, rfl⟩ : ∃ m, k = m + 1 := ⟨k - 1, by omega⟩
    have h1 := ih (i + 1) k (out ++ [(i : Int)]) (by omega) (by omega) (by omega) (by rw [List.length_append, List.length_singleton]; omega)
    have h2 := ih (i + 1) k out (by omega) (by omega) (by omega) (by omega)
    have t1 : (i : Int) < (s.size : Int) := by omega
    have t2 : out.length < 17592186044416 := by omega
    rw [impl_FreeCorners.l0, if_pos t1, impl_corner_f hp i (by omega), Option.bind_some, w1 i (by omega)]
    simp only [freeL]
    cases hc : cornB s i && freeC s i with
    | true => rw [if_pos rfl, if_pos t2, if_pos rfl, h1, List.append_assoc]; rfl
    | false => rw [if_neg (by simp), if_neg (by simp), h2]
theorem spec_free_l0 {s : ByteArray} (hp : pathB s = true) : ∀ (d i k : Nat) (out : List Int), s.size - i = d → i ≤ s.size → d + s.size + 5 < k → out.length ≤ i → spec_FreeCorners.l0 k s out (i : Int) = some (out ++ freeL s d i, true) := by
  have hs := path_size hp
  intro d
  induction d with
  | zero =>
    intro i k out hd hi hk ho
    obtain ⟨k, rfl⟩ : ∃ m, k = m + 1 := ⟨k - 1, by omega⟩
    have t1 : ¬ ((i + 1 : Nat) : Int) < (s.size : Int) := by omega
    rw [spec_FreeCorners.l0, w1 i (by omega), if_neg t1]
    simp [freeL]
  | succ d ih =>
    intro i k out hd hi hk ho
    obtain ⟨k, rfl⟩ : ∃ m, k = m + 1 := ⟨k - 1, by omega⟩
    have h1 := ih (i + 1) k (out ++ [(i : Int)]) (by omega) (by omega) (by omega) (by rw [List.length_append, List.length_singleton]; omega)
    have h2 := ih (i + 1) k out (by omega) (by omega) (by omega) (by omega)
    have t2 : out.length < 17592186044416 := by omega
    by_cases h : i + 1 < s.size
    · have t1 : ((i + 1 : Nat) : Int) < (s.size : Int) := by omega
      rw [spec_FreeCorners.l0, w1 i (by omega), if_pos t1, spec_corner_f hp i (by omega) k (by omega), Option.bind_some]
      simp only [freeL]
      cases hc : cornB s i with
      | true =>
        rw [if_pos rfl, spec_free_f hp i h k (by omega), Option.bind_some, Bool.true_and]
        cases hf : freeC s i with
        | true => rw [if_pos rfl, if_pos t2, if_pos rfl, h1, List.append_assoc]; rfl
        | false => rw [if_neg (by simp), if_neg (by simp), h2]
      | false => rw [if_neg (by simp), Bool.false_and, if_neg (by simp), h2]
    · have t1 : ¬ ((i + 1 : Nat) : Int) < (s.size : Int) := by omega
      have hc : cornB s i = false := by unfold cornB; rw [decide_eq_false h]; rfl
      have hd0 : d = 0 := by omega
      subst hd0
      rw [spec_FreeCorners.l0, w1 i (by omega), if_neg t1]
      simp [freeL, hc]
theorem FreeCorners_agree (s : ByteArray) (hl : s.size ≤ 1048576) : ∃ K r1 r2, r1.length ≤ 1048576 ∧ ∀ k, K ≤ k → spec_FreeCorners.f k s = some (r1, r2) ∧ impl_FreeCorners.f k s = some (r1, r2) := by
  cases hp : pathB s with
  | false =>
    refine ⟨s.size + 10, [], false, Nat.zero_le _, fun k hk => ?_⟩
    obtain ⟨o2, h2, _⟩ := readPath_f s k (by omega)
    unfold spec_FreeCorners.f impl_FreeCorners.f
    rw [Option.bind_some, spec_IsPath_f s k (by omega), h2, hp, Option.bind_some, Option.bind_some]
    exact ⟨rfl, rfl⟩
  | true =>
    have hs := path_size hp
    have hlen := freeL_length s s.size 0
    refine ⟨2 * s.size + 10, freeL s s.size 0, true, by omega, fun k hk => ?_⟩
    obtain ⟨o2, h2, e2⟩ := readPath_f s k (by omega)
    unfold spec_FreeCorners.f impl_FreeCorners.f
    rw [Option.bind_some, spec_IsPath_f s k (by omega), h2, hp, Option.bind_some, Option.bind_some, e2 hp, if_pos rfl, if_pos rfl]
    have h3 := spec_free_l0 hp s.size 0 k [] (by omega) (by omega) (by omega) (by simp)
    have h4 := impl_free_l0 hp s.size 0 k [] (by omega) (by omega) (by omega) (by simp)
    rw [List.nil_append] at h3 h4
    exact ⟨h3, h4⟩
end Go.Proofs.YtckmmpknaengjaaDoor.Q
