import Derived.Test.YtckmmpknaengjaaDoorPx5
import Derived.Test.YtckmmpknaengjaaDoorPx4
import Derived.Test.YtckmmpknaengjaaDoorPx3
import Derived.Test.YtckmmpknaengjaaDoorPx2
import Derived.Test.YtckmmpknaengjaaDoorGivT
/- Plain facts on paths: both sides' reading of one. -/
namespace Go.Proofs.YtckmmpknaengjaaDoor.Q
open Go.RowKit Go.Proofs.YtckmmpknaengjaaDoor.Px Go.Proofs.YtckmmpknaengjaaDoor.Giv Go.Proofs.YtckmmpknaengjaaDoorW.PrintWords Go.Proofs.YtckmmpknaengjaaDoorW.PrintLast Go.Proofs.YtckmmpknaengjaaDoorW.PrintMore
set_option linter.unusedVariables false
set_option linter.unusedSimpArgs false
theorem wrap_id (x : Int) (h0 : -9223372036854775808 ≤ x) (h1 : x ≤ 9223372036854775807) : wrap64 x = x := by unfold wrap64; omega
theorem in_f (a lo hi : Int) : spec_l1In.f a lo hi = some (decide (lo ≤ a ∧ a ≤ hi)) := by
  unfold spec_l1In.f
  by_cases h : a ≥ lo
  · rw [if_pos h]
    by_cases h2 : a ≤ hi <;> simp [h2, show lo ≤ a from h]
  · rw [if_neg h]
    have h' : ¬ lo ≤ a := h
    simp [h']
theorem bt_data (s : ByteArray) (i : Nat) (h : i < s.size) : ∃ b, s.data.toList[i]? = some b ∧ bt s (i : Int) = (b.toNat : Int) := by
  refine ⟨s[i], ?_, ?_⟩
  · have : s.data.toList[i]? = s.data[i]? := by simp
    rw [this, Array.getElem?_eq_getElem (by simpa using h)]
    rfl
  · unfold bt
    rw [dif_pos (by simpa using h)]
    rfl
def okc (b : Int) : Bool := decide (b = 108) || decide (b = 114) || decide (b = 117) || decide (b = 100)
def dxc (b : Int) : Int := if b = 108 then -1 else if b = 114 then 1 else 0
def dyc (b : Int) : Int := if b = 108 then 0 else if b = 114 then 0 else if b = 117 then 1 else if b = 100 then -1 else 0
theorem dx_range (b : Int) : -1 ≤ dxc b ∧ dxc b ≤ 1 := by unfold dxc; split <;> (try split) <;> omega
theorem dy_range (b : Int) : -1 ≤ dyc b ∧ dyc b ≤ 1 := by unfold dyc; split <;> (try split) <;> (try split) <;> (try split) <;> omega
theorem step_f (b : Int) : spec_l10Step.f b = some (dxc b, dyc b, okc b) := by
  unfold spec_l10Step.f dxc dyc okc
  by_cases h1 : b = 108
  · subst h1; rfl
  · by_cases h2 : b = 114
    · subst h2; rfl
    · by_cases h3 : b = 117
      · subst h3; rfl
      · by_cases h4 : b = 100
        · subst h4; rfl
        · simp [h1, h2, h3, h4]
theorem moved_f (x y b : Int) (hx : -100000 ≤ x ∧ x ≤ 100000) (hy : -100000 ≤ y ∧ y ≤ 100000) : impl_point_moved.f x y b = some (x + dxc b, y + dyc b) := by
  unfold impl_point_moved.f dxc dyc
  by_cases h1 : b = 108
  · subst h1; simp [wrap_id (x - 1) (by omega) (by omega)]; omega
  · by_cases h2 : b = 114
    · subst h2; simp [wrap_id (x + 1) (by omega) (by omega)]
    · by_cases h3 : b = 117
      · subst h3; simp [wrap_id (y + 1) (by omega) (by omega)]
      · by_cases h4 : b = 100
        · subst h4; simp [wrap_id (y - 1) (by omega) (by omega)]; omega
        · simp [h1, h2, h3, h4]
def inb (x : Int) : Bool := decide (-12 ≤ x ∧ x ≤ 12)
def goodFrom (s : ByteArray) : Nat → Nat → Int → Int → Bool
  | 0, _, _, _ => true
  | d + 1, i, x, y => okc (bt s (i : Int)) && (inb (x + dxc (bt s (i : Int))) && (inb (y + dyc (bt s (i : Int))) && goodFrom s d (i + 1) (x + dxc (bt s (i : Int))) (y + dyc (bt s (i : Int)))))
def ptsFrom (s : ByteArray) : Nat → Nat → Int → Int → List (Int × Int)
  | 0, _, _, _ => []
  | d + 1, i, x, y => (x + dxc (bt s (i : Int)), y + dyc (bt s (i : Int))) :: ptsFrom s d (i + 1) (x + dxc (bt s (i : Int))) (y + dyc (bt s (i : Int)))
theorem ptsFrom_length (s : ByteArray) : ∀ (d i : Nat) (x y : Int), (ptsFrom s d i x y).length = d
  | 0, _, _, _ => rfl
  | d + 1, i, x, y => by simp only [ptsFrom, List.length_cons]; rw [ptsFrom_length]
def mkA (p : Int × Int) : S23 := ⟨p.1, p.2⟩
def mkP (p : Int × Int) : S54 := ⟨p.1, p.2⟩
theorem points_l0 (s : ByteArray) (hs : s.size ≤ 400) : ∀ (d i k : Nat) (out : List S23) (x y : Int), s.size - i = d → i ≤ s.size → d < k → out.length ≤ i + 1 → (-(i : Int) ≤ x ∧ x ≤ (i : Int)) → (-(i : Int) ≤ y ∧ y ≤ (i : Int)) →
    ∃ o, spec_l10Points.l0 k s out x y (i : Int) = some (o, goodFrom s d i x y) ∧ (goodFrom s d i x y = true → o = out ++ (ptsFrom s d i x y).map mkA) := by
  intro d
  induction d with
  | zero =>
    intro i k out x y hd hi hk ho hx hy
    obtain ⟨k, rfl⟩ : ∃ m, k = m + 1 := ⟨k - 1, by omega⟩
    refine ⟨out, ?_, fun _ => by simp [ptsFrom]⟩
    rw [spec_l10Points.l0, if_neg (by omega)]
    rfl
  | succ d ih =>
    intro i k out x y hd hi hk ho hx hy
    obtain ⟨k, rfl⟩ : ∃ m, k = m + 1 := ⟨k - 1, by omega⟩
    have e : wrap64 ((i : Int) + 1) = ((i + 1 : Nat) : Int) := by rw [wrap_id _ (by omega) (by omega)]; omega
    have hdx := dx_range (bt s (i : Int))
    have hdy := dy_range (bt s (i : Int))
    rw [spec_l10Points.l0, if_pos (by omega), if_pos (by omega), step_f, Option.bind_some]
    simp only []
    rw [wrap_id (x + dxc (bt s (i : Int))) (by omega) (by omega), wrap_id (y + dyc (bt s (i : Int))) (by omega) (by omega), in_f, in_f, e]
    have eg : goodFrom s (d + 1) i x y = (okc (bt s (i : Int)) && (inb (x + dxc (bt s (i : Int))) && (inb (y + dyc (bt s (i : Int))) && goodFrom s d (i + 1) (x + dxc (bt s (i : Int))) (y + dyc (bt s (i : Int)))))) := rfl
    cases h1 : okc (bt s (i : Int)) with
    | false =>
      refine ⟨out, ?_, fun h => by rw [eg, h1] at h; simp at h⟩
      rw [if_neg (by simp), eg, h1]; rfl
    | true =>
      rw [if_pos rfl, Option.bind_some]
      have ex : decide (-12 ≤ x + dxc (bt s (i : Int)) ∧ x + dxc (bt s (i : Int)) ≤ 12) = inb (x + dxc (bt s (i : Int))) := rfl
      have ey : decide (-12 ≤ y + dyc (bt s (i : Int)) ∧ y + dyc (bt s (i : Int)) ≤ 12) = inb (y + dyc (bt s (i : Int))) := rfl
      rw [ex, ey]
      cases h2 : inb (x + dxc (bt s (i : Int))) with
      | false =>
        refine ⟨out, ?_, fun h => by rw [eg, h1, h2] at h; simp at h⟩
        rw [if_neg (by simp), eg, h1, h2]; rfl
      | true =>
        rw [if_pos rfl, Option.bind_some]
        cases h3 : inb (y + dyc (bt s (i : Int))) with
        | false =>
          refine ⟨out, ?_, fun h => by rw [eg, h1, h2, h3] at h; simp at h⟩
          rw [if_neg (by simp), eg, h1, h2, h3]; rfl
        | true =>
          rw [if_pos rfl, if_pos (by omega)]
          obtain ⟨o, h4, h5⟩ := ih (i + 1) k (out ++ [(⟨x + dxc (bt s (i : Int)), y + dyc (bt s (i : Int))⟩ : S23)]) (x + dxc (bt s (i : Int))) (y + dyc (bt s (i : Int))) (by omega) (by omega) (by omega) (by rw [List.length_append, List.length_singleton]; omega) (by omega) (by omega)
          have eg2 : goodFrom s (d + 1) i x y = goodFrom s d (i + 1) (x + dxc (bt s (i : Int))) (y + dyc (bt s (i : Int))) := by rw [eg, h1, h2, h3]; rfl
          refine ⟨o, by rw [h4, eg2], fun h => ?_⟩
          rw [h5 (by rw [← eg2]; exact h)]
          simp [ptsFrom, mkA]
theorem impl_points_l0 (s : ByteArray) (hs : s.size ≤ 400) : ∀ (d i k : Nat) (out : List S54) (x y : Int), s.size - i = d → i ≤ s.size → d < k → (-(i : Int) ≤ x ∧ x ≤ (i : Int)) → (-(i : Int) ≤ y ∧ y ≤ (i : Int)) → out.length = i →
    impl_pointsOf.l0 k s (out ++ [(⟨x, y⟩ : S54)]) (s.size : Int) (i : Int) = some (out ++ [(⟨x, y⟩ : S54)] ++ (ptsFrom s d i x y).map mkP) := by
  intro d
  induction d with
  | zero =>
    intro i k out x y hd hi hk hx hy ho
    obtain ⟨k, rfl⟩ : ∃ m, k = m + 1 := ⟨k - 1, by omega⟩
    rw [impl_pointsOf.l0, if_neg (by omega)]
    simp [ptsFrom]
  | succ d ih =>
    intro i k out x y hd hi hk hx hy ho
    obtain ⟨k, rfl⟩ : ∃ m, k = m + 1 := ⟨k - 1, by omega⟩
    have e : wrap64 ((i : Int) + 1) = ((i + 1 : Nat) : Int) := by rw [wrap_id _ (by omega) (by omega)]; omega
    have hdx := dx_range (bt s (i : Int))
    have hdy := dy_range (bt s (i : Int))
    have hr : rd_T54 (out ++ [(⟨x, y⟩ : S54)]) (i : Int) = ⟨x, y⟩ := by
      unfold rd_T54
      rw [Int.toNat_natCast, List.getD_eq_getElem?_getD, ← ho]
      simp
    rw [impl_pointsOf.l0, if_pos (by omega), if_pos (by omega), if_pos (by simp; omega), if_pos (by omega), hr, moved_f x y _ (by omega) (by omega), Option.bind_some, if_pos (by simp; omega), e]
    rw [ih (i + 1) k (out ++ [(⟨x, y⟩ : S54)]) (x + dxc (bt s (i : Int))) (y + dyc (bt s (i : Int))) (by omega) (by omega) (by omega) (by omega) (by omega) (by simp; omega)]
    simp [ptsFrom, mkP]
/-- All points of a path. -/
def pts (s : ByteArray) : List (Int × Int) := (0, 0) :: ptsFrom s s.size 0 0 0
theorem pts_length (s : ByteArray) : (pts s).length = s.size + 1 := by unfold pts; rw [List.length_cons, ptsFrom_length]
def pathB (s : ByteArray) : Bool := decide (s.size ≤ 400) && goodFrom s s.size 0 0 0
theorem l10Points_f (s : ByteArray) (k : Nat) (hk : s.size < k) : ∃ o, spec_l10Points.f k s = some (o, pathB s) ∧ (pathB s = true → o = (pts s).map mkA) := by
  unfold spec_l10Points.f pathB
  rw [Option.bind_some]
  by_cases h : s.size ≤ 400
  · rw [if_neg (by omega), decide_eq_true h]
    obtain ⟨o, h1, h2⟩ := points_l0 s h s.size 0 k [(⟨0, 0⟩ : S23)] 0 0 (by omega) (by omega) hk (by simp) (by omega) (by omega)
    refine ⟨o, ?_, fun hg => ?_⟩
    · rw [Bool.true_and]; exact h1
    · rw [Bool.true_and] at hg
      rw [h2 hg]
      simp [pts, mkA]
  · rw [if_pos (by omega), decide_eq_false h]
    exact ⟨_, rfl, fun h => by simp at h⟩
theorem pointsOf_f (s : ByteArray) (hs : s.size ≤ 400) (k : Nat) (hk : s.size < k) : impl_pointsOf.f k s = some ((pts s).map mkP) := by
  unfold impl_pointsOf.f
  have := impl_points_l0 s hs s.size 0 k [] 0 0 (by omega) (by omega) hk (by omega) (by omega) rfl
  rw [List.nil_append] at this
  refine Eq.trans this ?_
  simp [pts, mkP]
theorem within_f (x y : Int) (hx : -100000 ≤ x ∧ x ≤ 100000) (hy : -100000 ≤ y ∧ y ≤ 100000) : impl_readPath_1.f x y = some (!(inb x && inb y)) := by
  unfold impl_readPath_1.f impl_point_isWithin.f
  rw [wrap_id (-x) (by omega) (by omega), wrap_id (-y) (by omega) (by omega)]
  have ex : (mx x (-x) ≤ 12) ↔ (-12 ≤ x ∧ x ≤ 12) := by unfold mx; split <;> omega
  have ey : (mx y (-y) ≤ 12) ↔ (-12 ≤ y ∧ y ≤ 12) := by unfold mx; split <;> omega
  have iy : inb y = decide (mx y (-y) ≤ 12) := by unfold inb; rw [decide_eq_decide]; exact ey.symm
  by_cases h : mx x (-x) ≤ 12
  · have ix : inb x = true := by unfold inb; exact decide_eq_true (ex.mp h)
    rw [if_pos h, Option.bind_some, ix, iy, Bool.true_and]
  · have ix : inb x = false := by unfold inb; exact decide_eq_false (fun g => h (ex.mpr g))
    rw [if_neg h, Option.bind_some, ix]; rfl
theorem index_l0 (l : List (Int × Int)) (hl : l.length ≤ 1000) (hb : ∀ p ∈ l, (-100000 ≤ p.1 ∧ p.1 ≤ 100000) ∧ (-100000 ≤ p.2 ∧ p.2 ≤ 100000)) : ∀ (d i k : Nat), l.length - i = d → i ≤ l.length → d < k →
    ∃ r, slices_IndexFunc_impl_point_impl_point_at_impl_readPath_1.l0 k (l.map mkP) (l.length : Int) (i : Int) = some r ∧ decide (r ≥ 0) = !((l.drop i).all fun p => inb p.1 && inb p.2) := by
  intro d
  induction d with
  | zero =>
    intro i k hd hi hk
    obtain ⟨k, rfl⟩ : ∃ m, k = m + 1 := ⟨k - 1, by omega⟩
    refine ⟨-1, ?_, by rw [List.drop_of_length_le (by omega)]; rfl⟩
    rw [slices_IndexFunc_impl_point_impl_point_at_impl_readPath_1.l0, if_neg (by omega)]
  | succ d ih =>
    intro i k hd hi hk
    obtain ⟨k, rfl⟩ : ∃ m, k = m + 1 := ⟨k - 1, by omega⟩
    have e : wrap64 ((i : Int) + 1) = ((i + 1 : Nat) : Int) := by rw [wrap_id _ (by omega) (by omega)]; omega
    have hr : rd_T54 (l.map mkP) (i : Int) = mkP (l[i]'(by omega)) := by
      unfold rd_T54
      rw [Int.toNat_natCast, List.getD_eq_getElem?_getD, List.getElem?_map, List.getElem?_eq_getElem (by omega)]
      rfl
    have hm := hb (l[i]'(by omega)) (List.getElem_mem _)
    rw [slices_IndexFunc_impl_point_impl_point_at_impl_readPath_1.l0, if_pos (by omega), if_pos (by omega), if_pos (by rw [List.length_map]; omega), hr, e]
    rw [show (mkP (l[i]'(by omega))).f0 = (l[i]'(by omega)).1 from rfl, show (mkP (l[i]'(by omega))).f1 = (l[i]'(by omega)).2 from rfl, within_f _ _ hm.1 hm.2, Option.bind_some, List.drop_eq_getElem_cons (by omega : i < l.length), List.all_cons]
    show ∃ r, (if (!(inb (l[i]'(by omega)).1 && inb (l[i]'(by omega)).2)) = true then _ else _) = some r ∧ _
    cases hq : (inb (l[i]'(by omega)).1 && inb (l[i]'(by omega)).2) with
    | false => exact ⟨(i : Int), by rw [if_pos (by simp)], by simp⟩
    | true =>
      obtain ⟨r, h1, h2⟩ := ih (i + 1) k (by omega) (by omega) (by omega)
      exact ⟨r, by rw [if_neg (by simp)]; exact h1, by rw [h2, Bool.true_and]⟩
theorem ptsFrom_bound (s : ByteArray) : ∀ (d i : Nat) (x y : Int), (-(i : Int) ≤ x ∧ x ≤ (i : Int)) → (-(i : Int) ≤ y ∧ y ≤ (i : Int)) → ∀ p ∈ ptsFrom s d i x y, (-((i + d : Nat) : Int) ≤ p.1 ∧ p.1 ≤ ((i + d : Nat) : Int)) ∧ (-((i + d : Nat) : Int) ≤ p.2 ∧ p.2 ≤ ((i + d : Nat) : Int))
  | 0, i, x, y, _, _, p, hp => by simp [ptsFrom] at hp
  | d + 1, i, x, y, hx, hy, p, hp => by
    have hdx := dx_range (bt s (i : Int))
    have hdy := dy_range (bt s (i : Int))
    simp only [ptsFrom, List.mem_cons] at hp
    rcases hp with rfl | hp
    · simp only; omega
    · have := ptsFrom_bound s d (i + 1) (x + dxc (bt s (i : Int))) (y + dyc (bt s (i : Int))) (by omega) (by omega) p hp
      omega
theorem pts_bound (s : ByteArray) (hs : s.size ≤ 400) : ∀ p ∈ pts s, (-100000 ≤ p.1 ∧ p.1 ≤ 100000) ∧ (-100000 ≤ p.2 ∧ p.2 ≤ 100000) := by
  intro p hp
  unfold pts at hp
  rw [List.mem_cons] at hp
  rcases hp with rfl | hp
  · simp
  · have := ptsFrom_bound s s.size 0 0 0 (by omega) (by omega) p hp
    omega
def lettersFrom (s : ByteArray) : Nat → Nat → Bool
  | 0, _ => true
  | d + 1, i => okc (bt s (i : Int)) && lettersFrom s d (i + 1)
theorem good_parts (s : ByteArray) : ∀ (d i : Nat) (x y : Int), goodFrom s d i x y = (lettersFrom s d i && (ptsFrom s d i x y).all fun p => inb p.1 && inb p.2)
  | 0, _, _, _ => rfl
  | d + 1, i, x, y => by
    simp only [goodFrom, lettersFrom, ptsFrom, List.all_cons]
    rw [good_parts s d (i + 1)]
    cases okc (bt s (i : Int)) <;> cases inb (x + dxc (bt s (i : Int))) <;> cases inb (y + dyc (bt s (i : Int))) <;> cases lettersFrom s d (i + 1) <;> simp
def stepB (b : UInt8) : Bool := ([108, 114, 117, 100] : List UInt8).contains b
theorem okc_byte (b : UInt8) : okc (b.toNat : Int) = stepB b := by
  unfold okc stepB
  have key : ∀ n : Fin 256, (decide ((n.val : Int) = 108) || decide ((n.val : Int) = 114) || decide ((n.val : Int) = 117) || decide ((n.val : Int) = 100)) = ([108, 114, 117, 100] : List UInt8).contains (UInt8.ofNat n.val) := by decide +kernel
  have h := key ⟨b.toNat, b.toNat_lt⟩
  simpa using h
theorem letters_list (s : ByteArray) : ∀ (d i : Nat), i + d = s.size → lettersFrom s d i = (s.data.toList.drop i).all stepB := by
  have hsz : s.data.toList.length = s.size := by simp
  intro d
  induction d with
  | zero =>
    intro i hi
    rw [List.drop_of_length_le (by omega)]
    rfl
  | succ d ih =>
    intro i hi
    obtain ⟨b, hb, hv⟩ := bt_data s i (by omega)
    have hdr : s.data.toList.drop i = b :: s.data.toList.drop (i + 1) := by
      rw [List.drop_eq_getElem_cons (by omega)]
      congr 1
      rw [List.getElem?_eq_getElem (by omega)] at hb
      exact Option.some.inj hb
    simp only [lettersFrom]
    rw [hdr, List.all_cons, hv, ih (i + 1) (by omega), okc_byte]
theorem drop_all {α : Type} (p : α → Bool) : ∀ (l : List α), (∀ x ∈ l.dropWhile p, p x = true) → ∀ x ∈ l, p x = true
  | [], _ => by simp
  | a :: l, h => by
    intro x hx
    rw [List.dropWhile_cons] at h
    by_cases ha : p a = true
    · rw [if_pos ha] at h
      rw [List.mem_cons] at hx
      rcases hx with rfl | hx
      · exact ha
      · exact drop_all p l h x hx
    · rw [if_neg ha] at h
      exact h x hx
theorem dropWhile_nil {α : Type} (p : α → Bool) : ∀ (l : List α), l.dropWhile p = [] ↔ ∀ x ∈ l, p x = true
  | [] => by simp
  | a :: l => by
    rw [List.dropWhile_cons]
    by_cases ha : p a = true
    · rw [if_pos ha, dropWhile_nil p l]
      simp [ha]
    · rw [if_neg ha]
      simp [ha]
theorem trim_nil (l cs : List UInt8) : (Lib.trimS l cs = []) ↔ ∀ b ∈ l, cs.contains b = true := by
  unfold Lib.trimS Lib.trimLeftS Lib.trimRightS
  constructor
  · intro h
    rw [dropWhile_nil] at h
    have h1 : ∀ x ∈ l.reverse.dropWhile (cs.contains ·), cs.contains x = true := fun x hx => h x (List.mem_reverse.mpr hx)
    have h2 := drop_all (cs.contains ·) l.reverse h1
    intro b hb
    exact h2 b (List.mem_reverse.mpr hb)
  · intro h
    have h1 : l.reverse.dropWhile (cs.contains ·) = [] := by
      rw [dropWhile_nil]
      intro x hx
      exact h x (List.mem_reverse.mp hx)
    rw [h1]
    rfl
theorem trim_f (s : ByteArray) (hs : s.size ≤ 400) : ∃ t, strings_Trim.f s ⟨#[108, 114, 117, 100]⟩ = some t ∧ (t.toList != ([] : List UInt8)) = !lettersFrom s s.size 0 := by
  unfold strings_Trim.f
  rw [if_pos ⟨by omega, rfl⟩]
  refine ⟨_, rfl, ?_⟩
  rw [Lib.toList_data, letters_list s s.size 0 (by omega), List.drop_zero]
  show ((Lib.trimS s.data.toList [108, 114, 117, 100]) != ([] : List UInt8)) = _
  have h := trim_nil s.data.toList [108, 114, 117, 100]
  cases ha : s.data.toList.all stepB with
  | true =>
    have : Lib.trimS s.data.toList [108, 114, 117, 100] = [] := h.mpr (fun b hb => List.all_eq_true.mp ha b hb)
    rw [this]; rfl
  | false =>
    have : Lib.trimS s.data.toList [108, 114, 117, 100] ≠ [] := by
      intro hn
      have h3 : s.data.toList.all stepB = true := List.all_eq_true.mpr (fun b hb => h.mp hn b hb)
      rw [h3] at ha
      cases ha
    simpa using this
theorem readPath_f (s : ByteArray) (k : Nat) (hk : s.size + 3 < k) : ∃ o, impl_readPath.f k s = some (o, pathB s) ∧ (pathB s = true → o = (pts s).map mkP) := by
  unfold impl_readPath.f pathB
  obtain ⟨k, rfl⟩ : ∃ m, k = m + 1 := ⟨k - 1, by omega⟩
  by_cases h : s.size ≤ 400
  · rw [if_neg (by omega), decide_eq_true h, Bool.true_and, good_parts]
    obtain ⟨t, ht, hv⟩ := trim_f s h
    rw [ht, Option.bind_some, hv, impl_readPath.j0]
    cases hl : lettersFrom s s.size 0 with
    | false =>
      rw [if_pos (by simp)]
      exact ⟨[], rfl, fun h => by simp at h⟩
    | true =>
      rw [if_neg (by simp), pointsOf_f s h k (by omega), Option.bind_some]
      obtain ⟨r, h1, h2⟩ := index_l0 (pts s) (by rw [pts_length]; omega) (pts_bound s h) (pts s).length 0 k (by omega) (by omega) (by rw [pts_length]; omega)
      unfold slices_ContainsFunc_impl_point_impl_point_at_impl_readPath_1.f slices_IndexFunc_impl_point_impl_point_at_impl_readPath_1.f
      have e0 : ((0 : Nat) : Int) = 0 := rfl
      rw [e0] at h1
      rw [List.length_map, h1, Option.bind_some, Option.bind_some, h2, Bool.not_not, List.drop_zero]
      refine ⟨_, ?_, fun _ => rfl⟩
      congr 2
  · rw [if_pos (by omega), decide_eq_false h, impl_readPath.j0, if_pos rfl]
    exact ⟨[], rfl, fun h => by simp at h⟩
theorem spec_IsPath_f (s : ByteArray) (k : Nat) (hk : s.size < k) : spec_IsPath.f k s = some (pathB s) := by
  unfold spec_IsPath.f
  obtain ⟨o, h1, _⟩ := l10Points_f s k hk
  rw [h1]; rfl
theorem impl_IsPath_f (s : ByteArray) (k : Nat) (hk : s.size + 3 < k) : impl_IsPath.f k s = some (pathB s) := by
  unfold impl_IsPath.f
  obtain ⟨o, h1, _⟩ := readPath_f s k hk
  rw [h1]; rfl
theorem IsPath_agree (s : ByteArray) (hl : s.size ≤ 1048576) : ∃ K r, ∀ k, K ≤ k → spec_IsPath.f k s = some r ∧ impl_IsPath.f k s = some r :=
  ⟨s.size + 4, pathB s, fun k hk => ⟨spec_IsPath_f s k (by omega), impl_IsPath_f s k (by omega)⟩⟩
end Go.Proofs.YtckmmpknaengjaaDoor.Q
