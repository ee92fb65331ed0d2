import Derived.Test.YtckmmpknaengjaaDoorPx22
import Derived.Test.YtckmmpknaengjaaDoorPx21
import Derived.Test.YtckmmpknaengjaaDoorPx19
import Derived.Test.YtckmmpknaengjaaDoorQPathR
/- Plain facts on the word of a path. -/
namespace Go.Proofs.YtckmmpknaengjaaDoor.Q
open Go.RowKit Go.Proofs.YtckmmpknaengjaaDoor.Px Go.Proofs.YtckmmpknaengjaaDoor.Giv Go.Proofs.YtckmmpknaengjaaDoorW.PrintWords Go.Proofs.YtckmmpknaengjaaDoorW.PrintLast Go.Proofs.YtckmmpknaengjaaDoorW.PrintMore
set_option linter.unusedVariables false
set_option linter.unusedSimpArgs false
theorem ptsFrom_get (s : ByteArray) : ∀ (d i : Nat) (x y : Int) (j : Nat), j + 1 < d → (ptsFrom s d i x y).getD (j + 1) (0, 0) = (((ptsFrom s d i x y).getD j (0, 0)).1 + dxc (bt s ((i + j + 1 : Nat) : Int)), ((ptsFrom s d i x y).getD j (0, 0)).2 + dyc (bt s ((i + j + 1 : Nat) : Int)))
  | 0, i, x, y, j, h => by omega
  | 1, i, x, y, j, h => by omega
  | d + 2, i, x, y, 0, h => by
    simp [ptsFrom]
  | d + 2, i, x, y, j + 1, h => by
    have := ptsFrom_get s (d + 1) (i + 1) (x + dxc (bt s (i : Int))) (y + dyc (bt s (i : Int))) j (by omega)
    have e : ∀ n, (ptsFrom s (d + 2) i x y).getD (n + 1) (0, 0) = (ptsFrom s (d + 1) (i + 1) (x + dxc (bt s (i : Int))) (y + dyc (bt s (i : Int)))).getD n (0, 0) := fun n => rfl
    rw [e, e, this]
    have e2 : i + 1 + j + 1 = i + (j + 1) + 1 := by omega
    rw [e2]
theorem ptAt_succ (s : ByteArray) (i : Nat) (h : i < s.size) : ptAt s (i + 1) = ((ptAt s i).1 + dxc (bt s (i : Int)), (ptAt s i).2 + dyc (bt s (i : Int))) := by
  unfold ptAt pts
  cases i with
  | zero =>
    obtain ⟨d, hd⟩ : ∃ d, s.size = d + 1 := ⟨s.size - 1, by omega⟩
    rw [hd]
    simp [ptsFrom]
  | succ i =>
    have := ptsFrom_get s s.size 0 0 0 i (by omega)
    rw [Nat.zero_add] at this
    exact this
theorem ptAt_in {s : ByteArray} (hp : pathB s = true) (i : Nat) (h : i ≤ s.size) : (-12 ≤ (ptAt s i).1 ∧ (ptAt s i).1 ≤ 12) ∧ (-12 ≤ (ptAt s i).2 ∧ (ptAt s i).2 ≤ 12) := by
  have hg := hp
  unfold pathB at hg
  rw [good_parts] at hg
  simp only [Bool.and_eq_true] at hg
  have hall := List.all_eq_true.mp hg.2.2
  have hm : ptAt s i ∈ pts s := by
    unfold ptAt
    rw [List.getD_eq_getElem?_getD, List.getElem?_eq_getElem (by rw [pts_length]; omega)]
    exact List.getElem_mem _
  unfold pts at hm
  rw [List.mem_cons] at hm
  rcases hm with h0 | h0
  · rw [h0]; simp
  · have := hall _ h0
    unfold inb at this
    simpa using this
/-- The letter of a step; 0, if it has none. -/
def letC (s : ByteArray) (i : Nat) : Int :=
  if (ptAt s i).2 < 1 then 0
  else if bt s (i : Int) = 114 ∧ (1 ≤ (ptAt s i).1 ∧ (ptAt s i).1 ≤ 6) then (ptAt s i).1
  else if bt s (i : Int) = 108 ∧ (1 ≤ (ptAt s i).1 - 1 ∧ (ptAt s i).1 - 1 ≤ 6) then -((ptAt s i).1 - 1)
  else 0
/-- The word of a path from a step on. -/
def wordP (s : ByteArray) : Nat → Nat → List Int → List Int
  | 0, _, out => out
  | d + 1, i, out => wordP s d (i + 1) (if letC s i = 0 then out else out ++ [letC s i])
theorem letter_f {s : ByteArray} (hp : pathB s = true) (i : Nat) (hi : i < s.size) (k : Nat) (hk : 2 ≤ k) : spec_l10Letter.f k (ptAt s i).1 (ptAt s i).2 (ptAt s (i + 1)).1 (ptAt s (i + 1)).2 = some (letC s i) := by
  obtain ⟨k, rfl⟩ : ∃ m, k = m + 2 := ⟨k - 2, by omega⟩
  have hs := ptAt_succ s i hi
  have h1 := ptAt_in hp i (by omega)
  have hc := okc_cases (path_letter hp i hi)
  rw [hs]
  obtain ⟨x, hx⟩ : ∃ x, x = (ptAt s i).1 := ⟨_, rfl⟩
  obtain ⟨y, hy⟩ : ∃ y, y = (ptAt s i).2 := ⟨_, rfl⟩
  unfold spec_l10Letter.f letC
  simp only [← hx, ← hy] at h1 ⊢
  have w1 : wrap64 (x + 1) = x + 1 := wrap_id _ (by omega) (by omega)
  rcases hc with h | h | h | h
  · rw [h]
    have e1 : dxc 108 = -1 := rfl
    have e2 : dyc 108 = 0 := rfl
    have w2 : wrap64 (x + -1 + 1) = x := by rw [wrap_id _ (by omega) (by omega)]; omega
    have w3 : wrap64 (-(x + -1)) = -(x - 1) := by rw [wrap_id _ (by omega) (by omega)]; omega
    rw [e1, e2, if_pos (by omega), spec_l10Letter.j0]
    by_cases hy1 : y < 1
    · rw [decide_eq_true hy1, if_pos rfl, if_pos hy1]
    · rw [decide_eq_false hy1, if_neg (by simp), if_neg hy1, w1, if_neg (by omega), spec_l10Letter.j1, if_neg (by simp), w2, if_pos rfl, in_f, Option.bind_some, w3]
      by_cases hn : 1 ≤ x - 1 ∧ x - 1 ≤ 6
      · rw [if_pos (by rw [decide_eq_true_eq]; omega), if_neg (by omega : ¬ ((108 : Int) = 114 ∧ (1 ≤ x ∧ x ≤ 6))), if_pos ⟨rfl, hn⟩]
      · rw [if_neg (by rw [decide_eq_true_eq]; omega), if_neg (by omega : ¬ ((108 : Int) = 114 ∧ (1 ≤ x ∧ x ≤ 6))), if_neg (fun h => hn h.2)]
  · rw [h]
    have e1 : dxc 114 = 1 := rfl
    have e2 : dyc 114 = 0 := rfl
    have w2 : wrap64 (x + 1 + 1) = x + 2 := by rw [wrap_id _ (by omega) (by omega)]; omega
    rw [e1, e2, if_pos (by omega), spec_l10Letter.j0]
    by_cases hy1 : y < 1
    · rw [decide_eq_true hy1, if_pos rfl, if_pos hy1]
    · rw [decide_eq_false hy1, if_neg (by simp), if_neg hy1, w1, if_pos rfl, in_f, Option.bind_some, spec_l10Letter.j1]
      by_cases hn : 1 ≤ x ∧ x ≤ 6
      · rw [decide_eq_true hn, if_pos rfl, if_pos ⟨rfl, hn⟩]
      · rw [decide_eq_false hn, if_neg (by simp), w2, if_neg (by omega), if_neg (fun h => hn h.2), if_neg (by omega)]
  · rw [h]
    have e1 : dxc 117 = 0 := rfl
    have e2 : dyc 117 = 1 := rfl
    rw [e1, e2, if_neg (by omega), spec_l10Letter.j0, if_pos rfl, if_neg (by omega : ¬ ((117 : Int) = 114 ∧ _)), if_neg (by omega : ¬ ((117 : Int) = 108 ∧ _))]
    split <;> rfl
  · rw [h]
    have e1 : dxc 100 = 0 := rfl
    have e2 : dyc 100 = -1 := rfl
    rw [e1, e2, if_neg (by omega), spec_l10Letter.j0, if_pos rfl, if_neg (by omega : ¬ ((100 : Int) = 114 ∧ _)), if_neg (by omega : ¬ ((100 : Int) = 108 ∧ _))]
    split <;> rfl
theorem l10Word_l0 {s : ByteArray} (hp : pathB s = true) : ∀ (d i k : Nat) (out : List Int), s.size - i = d → i ≤ s.size → d + 3 < k → out.length ≤ i → spec_l10Word.l0 k ((pts s).map mkA) out ((i + 1 : Nat) : Int) = some (wordP s d i out) := by
  have hs := path_size hp
  intro d
  induction d with
  | zero =>
    intro i k out hd hi hk ho
    obtain ⟨k, rfl⟩ : ∃ m, k = m + 1 := ⟨k - 1, by omega⟩
    rw [spec_l10Word.l0, if_neg (by rw [List.length_map, pts_length]; omega)]
    rfl
  | succ d ih =>
    intro i k out hd hi hk ho
    obtain ⟨k, rfl⟩ : ∃ m, k = m + 1 := ⟨k - 1, by omega⟩
    have hl : ((pts s).map mkA).length = s.size + 1 := by rw [List.length_map, pts_length]
    have e1 : wrap64 (((i + 1 : Nat) : Int) - 1) = (i : Int) := by rw [wrap_id _ (by omega) (by omega)]; omega
    have e2 : wrap64 (((i + 1 : Nat) : Int) + 1) = ((i + 1 + 1 : Nat) : Int) := by rw [wrap_id _ (by omega) (by omega)]; omega
    rw [spec_l10Word.l0, if_pos (by omega), e1, if_pos (by omega), if_pos (by omega), if_pos (by omega), rdA s i (by rw [pts_length]; omega), rdA s (i + 1) (by rw [pts_length]; omega), e2]
    have hf := letter_f hp i (by omega) k (by omega)
    have hf2 : spec_l10Letter.f k (mkA (ptAt s i)).f0 (mkA (ptAt s i)).f1 (mkA (ptAt s (i + 1))).f0 (mkA (ptAt s (i + 1))).f1 = some (letC s i) := hf
    rw [hf2, Option.bind_some]
    simp only [wordP]
    by_cases hz : letC s i = 0
    · rw [if_pos hz, if_pos hz]
      exact ih (i + 1) k out (by omega) (by omega) (by omega) (by omega)
    · rw [if_neg hz, if_neg hz, if_pos (by omega)]
      exact ih (i + 1) k _ (by omega) (by omega) (by omega) (by rw [List.length_append, List.length_singleton]; omega)
theorem isNail_f (n : Int) : impl_isNail.f n = some (decide (1 ≤ n ∧ n ≤ 6)) := by
  unfold impl_isNail.f
  by_cases h : n ≥ 1
  · rw [if_pos h]
    by_cases h2 : n ≤ 6 <;> simp [h2, show 1 ≤ n from h]
  · rw [if_neg h]
    have h' : ¬ 1 ≤ n := h
    simp [h']
theorem letters_l0 {s : ByteArray} (hp : pathB s = true) : ∀ (d i k : Nat) (out : List Int), s.size - i = d → i ≤ s.size → 2 * d + 1 < k → out.length ≤ i → impl_lettersOf.l0 k s ((pts s).map mkP) out (s.size : Int) (i : Int) = some (wordP s d i out) := by
  have hs := path_size hp
  intro d
  induction d with
  | zero =>
    intro i k out hd hi hk ho
    obtain ⟨k, rfl⟩ : ∃ m, k = m + 1 := ⟨k - 1, by omega⟩
    rw [impl_lettersOf.l0, if_neg (by omega)]
    rfl
  | succ d ih =>
    intro i k out hd hi hk ho
    obtain ⟨k, rfl⟩ : ∃ m, k = m + 2 := ⟨k - 2, by omega⟩
    have hl : ((pts s).map mkP).length = s.size + 1 := by rw [List.length_map, pts_length]
    have e : wrap64 ((i : Int) + 1) = ((i + 1 : Nat) : Int) := by rw [wrap_id _ (by omega) (by omega)]; omega
    rw [impl_lettersOf.l0, if_pos (by omega), if_pos (by omega), if_pos (by omega), e, if_pos (by omega), if_pos (by omega), rdP s i (by rw [pts_length]; omega), rdP s (i + 1) (by rw [pts_length]; omega)]
    have hsu := ptAt_succ s i (by omega)
    have h1 := ptAt_in hp i (by omega)
    have hc := okc_cases (path_letter hp i (by omega))
    have ep0 : (mkP (ptAt s i)).f0 = (ptAt s i).1 := rfl
    have ep1 : (mkP (ptAt s i)).f1 = (ptAt s i).2 := rfl
    have eq0 : (mkP (ptAt s (i + 1))).f0 = (ptAt s i).1 + dxc (bt s (i : Int)) := by rw [hsu]; rfl
    rw [ep0, ep1, eq0, isNail_f]
    have hskip : ∀ n : Int, letC s i = 0 → impl_lettersOf.j1 (k + 1) s ((pts s).map mkP) out (i : Int) n (s.size : Int) (i : Int) true = some (wordP s (d + 1) i out) := by
      intro n hz
      rw [impl_lettersOf.j1, if_pos rfl, e, ih (i + 1) k out (by omega) (by omega) (by omega) (by omega)]
      simp only [wordP]
      rw [if_pos hz]
    obtain ⟨x, hx⟩ : ∃ x, x = (ptAt s i).1 := ⟨_, rfl⟩
    obtain ⟨y, hy⟩ : ∃ y, y = (ptAt s i).2 := ⟨_, rfl⟩
    have hlet : letC s i = if y < 1 then 0 else if bt s (i : Int) = 114 ∧ (1 ≤ x ∧ x ≤ 6) then x else if bt s (i : Int) = 108 ∧ (1 ≤ x - 1 ∧ x - 1 ≤ 6) then -(x - 1) else 0 := by rw [hx, hy]; rfl
    rw [← hx, ← hy] at h1 ⊢
    by_cases hy1 : y < 1
    · rw [if_pos hy1]
      exact hskip _ (by rw [hlet, if_pos hy1])
    · rw [if_neg hy1, Option.bind_some]
      rw [if_neg hy1] at hlet
      rcases hc with h | h | h | h
      · rw [h]
        rw [h, if_neg (by omega)] at hlet
        have e1 : mn x (x + dxc 108) = x - 1 := by rw [show dxc 108 = -1 from rfl]; unfold mn; rw [if_pos (by omega)]; omega
        rw [e1]
        by_cases hn : 1 ≤ x - 1 ∧ x - 1 ≤ 6
        · rw [if_pos ⟨rfl, hn⟩] at hlet
          rw [decide_eq_true hn, impl_lettersOf.j1, if_neg (by simp), if_pos (by omega), if_pos (by omega), h, if_neg (by omega), if_pos rfl, if_pos (by omega), wrap_id (-(x - 1)) (by omega) (by omega), e, ih (i + 1) k _ (by omega) (by omega) (by omega) (by rw [List.length_append, List.length_singleton]; omega)]
          simp only [wordP]
          rw [hlet, if_neg (by omega)]
        · rw [if_neg (fun h => hn h.2)] at hlet
          rw [decide_eq_false hn]
          exact hskip _ hlet
      · rw [h]
        rw [h] at hlet
        have e1 : mn x (x + dxc 114) = x := by rw [show dxc 114 = 1 from rfl]; unfold mn; rw [if_neg (by omega)]
        rw [e1]
        by_cases hn : 1 ≤ x ∧ x ≤ 6
        · rw [if_pos ⟨rfl, hn⟩] at hlet
          rw [decide_eq_true hn, impl_lettersOf.j1, if_neg (by simp), if_pos (by omega), if_pos (by omega), h, if_pos rfl, if_pos (by omega), e, ih (i + 1) k _ (by omega) (by omega) (by omega) (by rw [List.length_append, List.length_singleton]; omega)]
          simp only [wordP]
          rw [hlet, if_neg (by omega)]
        · rw [if_neg (fun h => hn h.2), if_neg (by omega)] at hlet
          rw [decide_eq_false hn]
          exact hskip _ hlet
      · rw [h, if_neg (by omega), if_neg (by omega)] at hlet
        cases hd : decide (1 ≤ mn x (x + dxc (bt s (i : Int))) ∧ mn x (x + dxc (bt s (i : Int))) ≤ 6) with
        | false => exact hskip _ hlet
        | true =>
          rw [impl_lettersOf.j1, if_neg (by simp), if_pos (by omega), if_pos (by omega), h, if_neg (by omega), if_neg (by omega), e, ih (i + 1) k out (by omega) (by omega) (by omega) (by omega)]
          simp only [wordP]
          rw [if_pos hlet]
      · rw [h, if_neg (by omega), if_neg (by omega)] at hlet
        cases hd : decide (1 ≤ mn x (x + dxc (bt s (i : Int))) ∧ mn x (x + dxc (bt s (i : Int))) ≤ 6) with
        | false => exact hskip _ hlet
        | true =>
          rw [impl_lettersOf.j1, if_neg (by simp), if_pos (by omega), if_pos (by omega), h, if_neg (by omega), if_neg (by omega), e, ih (i + 1) k out (by omega) (by omega) (by omega) (by omega)]
          simp only [wordP]
          rw [if_pos hlet]
/-- The word of a path. -/
def pathWord (s : ByteArray) : List Int := wordP s s.size 0 []
theorem wordP_length (s : ByteArray) : ∀ (d i : Nat) (out : List Int), (wordP s d i out).length ≤ out.length + d
  | 0, i, out => by simp [wordP]
  | d + 1, i, out => by
    simp only [wordP]
    by_cases hz : letC s i = 0
    · rw [if_pos hz]
      have := wordP_length s d (i + 1) out
      omega
    · rw [if_neg hz]
      have := wordP_length s d (i + 1) (out ++ [letC s i])
      rw [List.length_append, List.length_singleton] at this
      omega
theorem l10Word_f {s : ByteArray} (hp : pathB s = true) (k : Nat) (hk : s.size + 3 < k) : spec_l10Word.f k s = some (pathWord s) := by
  unfold spec_l10Word.f pathWord
  obtain ⟨o, h1, h2⟩ := l10Points_f s k (by omega)
  rw [h1, Option.bind_some]
  simp only []
  rw [h2 hp]
  exact l10Word_l0 hp s.size 0 k [] (by omega) (by omega) hk (by simp)
theorem lettersOf_f {s : ByteArray} (hp : pathB s = true) (k : Nat) (hk : 2 * s.size + 1 < k) : impl_lettersOf.f k s ((pts s).map mkP) = some (pathWord s) := by
  unfold impl_lettersOf.f pathWord
  exact letters_l0 hp s.size 0 k [] (by omega) (by omega) hk (by simp)
/-- How many letters of a nail, less those the other way round. -/
def turns (n : Int) (w : List Int) : Nat → Nat → Int → Int
  | 0, _, out => out
  | d + 1, i, out => turns n w d (i + 1) (if rd w (i : Int) = n then out + 1 else if rd w (i : Int) = -n then out - 1 else out)
theorem spec_turns_l0 (n : Int) (hn : 1 ≤ n ∧ n ≤ 6) (w : List Int) (hw : w.length ≤ 1000) : ∀ (d i k : Nat) (out : Int), w.length - i = d → i ≤ w.length → d < k → (-(i : Int) ≤ out ∧ out ≤ (i : Int)) → spec_TurnsAround.l0 k n out w (i : Int) = some (turns n w d i out, true) := by
  intro d
  induction d with
  | zero =>
    intro i k out hd hi hk ho
    obtain ⟨k, rfl⟩ : ∃ m, k = m + 1 := ⟨k - 1, by omega⟩
    rw [spec_TurnsAround.l0, if_neg (by omega)]
    rfl
  | succ d ih =>
    intro i k out hd hi hk ho
    obtain ⟨k, rfl⟩ : ∃ m, k = m + 1 := ⟨k - 1, by omega⟩
    have e : wrap64 ((i : Int) + 1) = ((i + 1 : Nat) : Int) := by rw [wrap_id _ (by omega) (by omega)]; omega
    rw [spec_TurnsAround.l0, if_pos (by omega), if_pos (by omega), wrap_id (-n) (by omega) (by omega), e]
    simp only [turns]
    by_cases h1 : rd w (i : Int) = n
    · rw [if_pos h1, if_neg (by omega), if_pos h1, wrap_id (out + 1) (by omega) (by omega), ih (i + 1) k _ (by omega) (by omega) (by omega) (by omega)]
    · rw [if_neg h1, if_neg h1]
      by_cases h2 : rd w (i : Int) = -n
      · rw [if_pos h2, if_pos h2, wrap_id (out - 1) (by omega) (by omega), ih (i + 1) k _ (by omega) (by omega) (by omega) (by omega)]
      · rw [if_neg h2, if_neg h2, ih (i + 1) k _ (by omega) (by omega) (by omega) (by omega)]
theorem impl_turns_l0 (n : Int) (hn : 1 ≤ n ∧ n ≤ 6) (w : List Int) (hw : w.length ≤ 1000) : ∀ (d i k : Nat) (out : Int), w.length - i = d → i ≤ w.length → d < k → (-(i : Int) ≤ out ∧ out ≤ (i : Int)) → impl_TurnsAround.l0 k n out w (w.length : Int) (i : Int) = some (turns n w d i out, true) := by
  intro d
  induction d with
  | zero =>
    intro i k out hd hi hk ho
    obtain ⟨k, rfl⟩ : ∃ m, k = m + 1 := ⟨k - 1, by omega⟩
    rw [impl_TurnsAround.l0, if_neg (by omega)]
    rfl
  | succ d ih =>
    intro i k out hd hi hk ho
    obtain ⟨k, rfl⟩ : ∃ m, k = m + 1 := ⟨k - 1, by omega⟩
    have e : wrap64 ((i : Int) + 1) = ((i + 1 : Nat) : Int) := by rw [wrap_id _ (by omega) (by omega)]; omega
    rw [impl_TurnsAround.l0, if_pos (by omega), if_pos (by omega), if_pos (by omega), wrap_id (-n) (by omega) (by omega), e]
    simp only [turns]
    by_cases h1 : rd w (i : Int) = n
    · rw [if_pos h1, if_pos h1, wrap_id (out + 1) (by omega) (by omega), ih (i + 1) k _ (by omega) (by omega) (by omega) (by omega)]
    · rw [if_neg h1, if_neg h1]
      by_cases h2 : rd w (i : Int) = -n
      · rw [if_pos h2, if_pos h2, wrap_id (out - 1) (by omega) (by omega), ih (i + 1) k _ (by omega) (by omega) (by omega) (by omega)]
      · rw [if_neg h2, if_neg h2, ih (i + 1) k _ (by omega) (by omega) (by omega) (by omega)]
theorem TurnsAround_agree (s : ByteArray) (n : Int) (hl : s.size ≤ 1048576) : ∃ K r1 r2, ∀ k, K ≤ k → spec_TurnsAround.f k s n = some (r1, r2) ∧ impl_TurnsAround.f k s n = some (r1, r2) := by
  cases hp : pathB s with
  | false =>
    refine ⟨s.size + 10, 0, false, fun k hk => ?_⟩
    obtain ⟨k, rfl⟩ : ∃ m, k = m + 1 := ⟨k - 1, by omega⟩
    unfold spec_TurnsAround.f impl_TurnsAround.f
    obtain ⟨o, h1, _⟩ := readPath_f s (k + 1) (by omega)
    rw [spec_IsPath_f s (k + 1) (by omega), h1, hp, Option.bind_some, Option.bind_some, if_neg (by simp), if_neg (by simp), spec_TurnsAround.j0, impl_TurnsAround.j0]
    exact ⟨rfl, rfl⟩
  | true =>
    have hs := path_size hp
    have hwl : (pathWord s).length ≤ 400 := by
      have := wordP_length s s.size 0 []
      unfold pathWord
      simp at this
      omega
    by_cases hn : 1 ≤ n ∧ n ≤ 6
    · refine ⟨2 * s.size + 1000, turns n (pathWord s) (pathWord s).length 0 0, true, fun k hk => ?_⟩
      obtain ⟨k, rfl⟩ : ∃ m, k = m + 1 := ⟨k - 1, by omega⟩
      unfold spec_TurnsAround.f impl_TurnsAround.f
      obtain ⟨o, h1, h2⟩ := readPath_f s (k + 1) (by omega)
      rw [spec_IsPath_f s (k + 1) (by omega), h1, hp, Option.bind_some, Option.bind_some, if_pos rfl, if_pos rfl, in_f, isNail_f, decide_eq_true hn, Option.bind_some, Option.bind_some, spec_TurnsAround.j0, impl_TurnsAround.j0, if_neg (by simp), if_neg (by simp)]
      simp only []
      rw [h2 hp, l10Word_f hp k (by omega), lettersOf_f hp k (by omega), Option.bind_some, Option.bind_some]
      exact ⟨spec_turns_l0 n hn (pathWord s) (by omega) (pathWord s).length 0 k 0 (by omega) (by omega) (by omega) (by omega), impl_turns_l0 n hn (pathWord s) (by omega) (pathWord s).length 0 k 0 (by omega) (by omega) (by omega) (by omega)⟩
    · refine ⟨2 * s.size + 1000, 0, false, fun k hk => ?_⟩
      obtain ⟨k, rfl⟩ : ∃ m, k = m + 1 := ⟨k - 1, by omega⟩
      unfold spec_TurnsAround.f impl_TurnsAround.f
      obtain ⟨o, h1, h2⟩ := readPath_f s (k + 1) (by omega)
      rw [spec_IsPath_f s (k + 1) (by omega), h1, hp, Option.bind_some, Option.bind_some, if_pos rfl, if_pos rfl, in_f, isNail_f, decide_eq_false hn, Option.bind_some, Option.bind_some, spec_TurnsAround.j0, impl_TurnsAround.j0]
      exact ⟨rfl, rfl⟩
end Go.Proofs.YtckmmpknaengjaaDoor.Q
