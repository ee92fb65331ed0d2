import Derived.Test.YtckmmpknaengjaaDoorPx15
import Derived.Test.YtckmmpknaengjaaDoorPx14
import Derived.Test.YtckmmpknaengjaaDoorPx13
import Derived.Test.YtckmmpknaengjaaDoorQPathB
/- Plain facts on paths back and paths that are shrunk. -/
namespace Go.Proofs.YtckmmpknaengjaaDoor.Q
open Go.RowKit Go.Proofs.YtckmmpknaengjaaDoor.Px Go.Proofs.YtckmmpknaengjaaDoor.Giv Go.Proofs.YtckmmpknaengjaaDoorW.PrintWords Go.Proofs.YtckmmpknaengjaaDoorW.PrintLast Go.Proofs.YtckmmpknaengjaaDoorW.PrintMore
set_option linter.unusedVariables false
set_option linter.unusedSimpArgs false
def oppC (b : Int) : Int := if b = 108 then 114 else if b = 114 then 108 else if b = 117 then 100 else 117
theorem okc_cases {b : Int} (h : okc b = true) : b = 108 ∨ b = 114 ∨ b = 117 ∨ b = 100 := by
  unfold okc at h
  simp only [Bool.or_eq_true, decide_eq_true_eq] at h
  omega
theorem opposite_f {b : Int} (h : okc b = true) : impl_opposite.f b = some (oppC b) := by
  rcases okc_cases h with rfl | rfl | rfl | rfl <;> rfl
theorem opp_range (b : Int) : 0 ≤ oppC b ∧ oppC b < 256 := by unfold oppC; split <;> (try split) <;> (try split) <;> omega
theorem back_f (b : Int) : spec_l10Back.f b = some ⟨#[(oppC b).toNat.toUInt8]⟩ := by
  unfold spec_l10Back.f oppC
  by_cases h1 : b = 108
  · rw [if_pos h1, if_pos h1]; rfl
  · rw [if_neg h1, if_neg h1]
    by_cases h2 : b = 114
    · rw [if_pos h2, if_pos h2]; rfl
    · rw [if_neg h2, if_neg h2]
      by_cases h3 : b = 117
      · rw [if_pos h3, if_pos h3]; rfl
      · rw [if_neg h3, if_neg h3]; rfl
theorem letters_at (s : ByteArray) : ∀ (d i : Nat), lettersFrom s d i = true → ∀ j, i ≤ j → j < i + d → okc (bt s (j : Int)) = true
  | 0, i, _, j, h1, h2 => by omega
  | d + 1, i, h, j, h1, h2 => by
    simp only [lettersFrom, Bool.and_eq_true] at h
    by_cases e : j = i
    · rw [e]; exact h.1
    · exact letters_at s d (i + 1) h.2 j (by omega) (by omega)
theorem path_letter {s : ByteArray} (h : pathB s = true) (i : Nat) (hi : i < s.size) : okc (bt s (i : Int)) = true := by
  unfold pathB at h
  rw [good_parts] at h
  simp only [Bool.and_eq_true] at h
  exact letters_at s s.size 0 h.2.1 i (by omega) (by omega)
/-- A text of numbers. -/
def txt (l : List Int) : ByteArray := ⟨(l.map fun n => n.toNat.toUInt8).toArray⟩
theorem txt_strOf (l : List Int) : strOfNums l = txt l := rfl
theorem txt_snoc (l : List Int) (n : Int) : txt l ++ ⟨#[n.toNat.toUInt8]⟩ = txt (l ++ [n]) := by
  unfold txt
  rw [List.map_append]
  apply ByteArray.ext
  rw [ByteArray.data_append]
  simp
theorem txt_size (l : List Int) : (txt l).size = l.length := by
  unfold txt
  show (l.map fun n => n.toNat.toUInt8).toArray.size = l.length
  simp
/-- The steps back from a place. -/
def revL (s : ByteArray) : Nat → List Int
  | 0 => []
  | n + 1 => oppC (bt s (n : Int)) :: revL s n
theorem revL_length (s : ByteArray) : ∀ n, (revL s n).length = n
  | 0 => rfl
  | n + 1 => by simp only [revL, List.length_cons]; rw [revL_length]
theorem spec_rev_l0 (s : ByteArray) (hs : s.size ≤ 400) : ∀ (n k : Nat) (out : List Int), n ≤ s.size → n < k → out.length + n ≤ 400 → spec_ReversePath.l0 k s (txt out) ((n : Int) - 1) = some (txt (out ++ revL s n), true) := by
  intro n
  induction n with
  | zero =>
    intro k out hn hk ho
    obtain ⟨k, rfl⟩ : ∃ m, k = m + 1 := ⟨k - 1, by omega⟩
    rw [spec_ReversePath.l0, if_neg (by omega)]
    simp [revL]
  | succ n ih =>
    intro k out hn hk ho
    obtain ⟨k, rfl⟩ : ∃ m, k = m + 1 := ⟨k - 1, by omega⟩
    have e : ((n + 1 : Nat) : Int) - 1 = (n : Int) := by omega
    have e2 : wrap64 ((n : Int) - 1) = (n : Int) - 1 := wrap_id _ (by omega) (by omega)
    have e3 : (⟨#[(oppC (bt s (n : Int))).toNat.toUInt8]⟩ : ByteArray).size = 1 := rfl
    rw [e, spec_ReversePath.l0, if_pos (by omega), if_pos (by omega), if_pos (by omega), back_f, Option.bind_some, e3, if_pos (by rw [txt_size]; omega), e2, txt_snoc, ih k _ (by omega) (by omega) (by rw [List.length_append, List.length_singleton]; omega)]
    simp [revL]
theorem impl_rev_l0 (s : ByteArray) (hp : pathB s = true) : ∀ (n k : Nat) (out : List Int), n ≤ s.size → n < k → out.length + n ≤ 400 → impl_ReversePath.l0 k s out ((n : Int) - 1) = some (txt (out ++ revL s n), true) := by
  have hs := path_size hp
  intro n
  induction n with
  | zero =>
    intro k out hn hk ho
    obtain ⟨k, rfl⟩ : ∃ m, k = m + 1 := ⟨k - 1, by omega⟩
    rw [impl_ReversePath.l0, if_neg (by omega), txt_strOf]
    simp [revL]
  | succ n ih =>
    intro k out hn hk ho
    obtain ⟨k, rfl⟩ : ∃ m, k = m + 1 := ⟨k - 1, by omega⟩
    have e : ((n + 1 : Nat) : Int) - 1 = (n : Int) := by omega
    have e2 : wrap64 ((n : Int) - 1) = (n : Int) - 1 := wrap_id _ (by omega) (by omega)
    rw [e, impl_ReversePath.l0, if_pos (by omega), if_pos (by omega), if_pos (by omega), opposite_f (path_letter hp n (by omega)), Option.bind_some, if_pos (by omega), e2, ih k _ (by omega) (by omega) (by rw [List.length_append, List.length_singleton]; omega)]
    simp [revL]
theorem closed_path {s : ByteArray} (h : closedB s = true) : pathB s = true := by
  unfold closedB at h
  simp only [Bool.and_eq_true] at h
  exact h.1
theorem ReversePath_agree (s : ByteArray) (hl : s.size ≤ 1048576) : ∃ K r1 r2, ∀ k, K ≤ k → spec_ReversePath.f k s = some (r1, r2) ∧ impl_ReversePath.f k s = some (r1, r2) := by
  cases hc : closedB s with
  | false =>
    refine ⟨s.size + 4, ⟨#[]⟩, false, fun k hk => ?_⟩
    unfold spec_ReversePath.f impl_ReversePath.f
    rw [l10Closed_f s k (by omega), impl_IsClosed_f s k (by omega), hc]
    simp
  | true =>
    have hp := closed_path hc
    have hs := path_size hp
    refine ⟨s.size + 4, txt (revL s s.size), true, fun k hk => ?_⟩
    unfold spec_ReversePath.f impl_ReversePath.f
    rw [l10Closed_f s k (by omega), impl_IsClosed_f s k (by omega), hc, wrap_id ((s.size : Int) - 1) (by omega) (by omega)]
    simp only [Option.bind_some, if_true]
    have h1 := spec_rev_l0 s hs s.size k [] (by omega) (by omega) (by simp; omega)
    have h2 := impl_rev_l0 s hp s.size k [] (by omega) (by omega) (by simp; omega)
    rw [List.nil_append] at h1 h2
    exact ⟨h1, h2⟩
/-- The stack that takes up steps. -/
def shr (s : ByteArray) : Nat → Nat → List Int → List Int
  | 0, _, st => st
  | d + 1, i, st => if st ≠ [] ∧ rd st ((st.length - 1 : Nat) : Int) = oppC (bt s (i : Int)) then shr s d (i + 1) st.dropLast else shr s d (i + 1) (st ++ [bt s (i : Int)])
theorem impl_shr_l0 (s : ByteArray) (hp : pathB s = true) : ∀ (d i k : Nat) (st : List Int), s.size - i = d → i ≤ s.size → d < k → st.length ≤ i → impl_ShrinkPath.l0 k s st (s.size : Int) (i : Int) = some (txt (shr s d i st), true) := by
  have hs := path_size hp
  intro d
  induction d with
  | zero =>
    intro i k st hd hi hk hst
    obtain ⟨k, rfl⟩ : ∃ m, k = m + 1 := ⟨k - 1, by omega⟩
    rw [impl_ShrinkPath.l0, if_neg (by omega), txt_strOf]
    rfl
  | succ d ih =>
    intro i k st hd hi hk hst
    obtain ⟨k, rfl⟩ : ∃ m, k = m + 1 := ⟨k - 1, by omega⟩
    have e : wrap64 ((i : Int) + 1) = ((i + 1 : Nat) : Int) := by rw [wrap_id _ (by omega) (by omega)]; omega
    have hpush := ih (i + 1) k (st ++ [bt s (i : Int)]) (by omega) (by omega) (by omega) (by rw [List.length_append, List.length_singleton]; omega)
    rw [impl_ShrinkPath.l0, if_pos (by omega), wrap_id ((st.length : Int) - 1) (by omega) (by omega), e]
    simp only [shr]
    by_cases hne : st = []
    · subst hne
      rw [if_neg (by simp), if_pos (by omega), if_pos (by omega), if_pos (by simp), if_neg (by simp)]
      exact hpush
    · have hpos : 0 < st.length := List.length_pos_iff.mpr hne
      have e1 : (st.length : Int) - 1 = ((st.length - 1 : Nat) : Int) := by omega
      rw [e1, if_pos (by omega), if_pos (by omega), if_pos (by omega), if_pos (by omega), if_pos (by omega), opposite_f (path_letter hp i (by omega)), Option.bind_some]
      by_cases hq : rd st ((st.length - 1 : Nat) : Int) = oppC (bt s (i : Int))
      · rw [if_pos hq, if_pos (by omega), if_pos ⟨hne, hq⟩, Int.toNat_natCast, ← List.dropLast_eq_take]
        exact ih (i + 1) k _ (by omega) (by omega) (by omega) (by rw [List.length_dropLast]; omega)
      · rw [if_neg hq, if_pos (by omega), if_neg (by intro h; exact hq h.2)]
        exact hpush
theorem rd_nth (l : List Int) (i : Nat) (h : i < l.length) : rd l (i : Int) = l[i] := by
  unfold rd
  rw [Int.toNat_natCast, List.getD_eq_getElem?_getD, List.getElem?_eq_getElem h]; rfl
theorem txt_last (st : List Int) (h : st ≠ []) (hb : ∀ x ∈ st, 0 ≤ x ∧ x < 256) (b : Int) (hb2 : 0 ≤ b ∧ b < 256) : ((txt st).extract (st.length - 1) (txt st).size).toList = (⟨#[b.toNat.toUInt8]⟩ : ByteArray).toList ↔ rd st ((st.length - 1 : Nat) : Int) = b := by
  have hpos : 0 < st.length := List.length_pos_iff.mpr h
  rw [Lib.toList_data, Lib.toList_data, ext_drop]
  unfold txt
  simp only []
  rw [← List.map_drop, List.drop_eq_getElem_cons (by omega : st.length - 1 < st.length), List.drop_of_length_le (by omega), rd_nth st (st.length - 1) (by omega)]
  have hm := hb (st[st.length - 1]'(by omega)) (List.getElem_mem _)
  constructor
  · intro h1
    simp only [List.map_cons, List.map_nil, List.cons.injEq, and_true] at h1
    have h2 := congrArg UInt8.toNat h1
    simp at h2
    omega
  · intro h1
    rw [h1]
    rfl
theorem txt_pop (st : List Int) : (txt st).extract 0 (st.length - 1) = txt st.dropLast := by
  apply ByteArray.ext
  apply Array.ext'
  rw [ext_take]
  unfold txt
  simp only []
  rw [← List.map_take, List.dropLast_eq_take]
theorem txt_step (s : ByteArray) (i : Nat) (hi : i < s.size) : s.extract i (i + 1) = ⟨#[(bt s (i : Int)).toNat.toUInt8]⟩ := by
  apply ByteArray.ext
  apply Array.ext'
  obtain ⟨b, hb, hv⟩ := bt_data s i hi
  rw [ByteArray.data_extract, Array.toList_extract, hv]
  have hl : s.data.toList.length = s.size := by simp
  rw [List.getElem?_eq_getElem (by omega)] at hb
  rw [List.extract_eq_take_drop, show i + 1 - i = 1 from by omega, List.drop_eq_getElem_cons (by omega : i < s.data.toList.length), Option.some.inj hb]
  simp
theorem bt_byte (s : ByteArray) (i : Int) : 0 ≤ bt s i ∧ bt s i < 256 := by have := bt_range s i; omega
theorem spec_shr_l0 (s : ByteArray) (hs : s.size ≤ 400) : ∀ (d i k : Nat) (st : List Int), s.size - i = d → i ≤ s.size → d < k → st.length ≤ i → (∀ x ∈ st, 0 ≤ x ∧ x < 256) → spec_ShrinkPath.l0 k s (txt st) (i : Int) = some (txt (shr s d i st), true) := by
  intro d
  induction d with
  | zero =>
    intro i k st hd hi hk hst hb
    obtain ⟨k, rfl⟩ : ∃ m, k = m + 1 := ⟨k - 1, by omega⟩
    rw [spec_ShrinkPath.l0, if_neg (by omega)]
    rfl
  | succ d ih =>
    intro i k st hd hi hk hst hb
    obtain ⟨k, rfl⟩ : ∃ m, k = m + 1 := ⟨k - 1, by omega⟩
    have e : wrap64 ((i : Int) + 1) = ((i + 1 : Nat) : Int) := by rw [wrap_id _ (by omega) (by omega)]; omega
    have hbt := bt_byte s (i : Int)
    have hpush := ih (i + 1) k (st ++ [bt s (i : Int)]) (by omega) (by omega) (by omega) (by rw [List.length_append, List.length_singleton]; omega) (by
      intro x hx
      rw [List.mem_append] at hx
      rcases hx with hx | hx
      · exact hb x hx
      · simp at hx; omega)
    have e3 : (s.extract i (i + 1)).size = 1 := by rw [txt_step s i (by omega)]; rfl
    rw [spec_ShrinkPath.l0, if_pos (by omega), e, back_f]
    simp only [shr, Int.toNat_natCast, Option.bind_some]
    rw [txt_size, wrap_id ((st.length : Int) - 1) (by omega) (by omega)]
    by_cases hne : st = []
    · subst hne
      rw [if_neg (by simp), if_pos (by omega), if_pos (by omega), if_pos (by omega), e3, if_pos (by simp), if_neg (by simp), txt_step s i (by omega), txt_snoc]
      exact hpush
    · have hpos : 0 < st.length := List.length_pos_iff.mpr hne
      have e1 : (st.length : Int) - 1 = ((st.length - 1 : Nat) : Int) := by omega
      rw [e1, if_pos (by omega), if_pos (by omega), if_pos (by omega), if_pos (by omega), Int.toNat_natCast]
      have hlast := txt_last st hne hb (oppC (bt s (i : Int))) (opp_range _)
      rw [txt_size] at hlast
      by_cases hq : rd st ((st.length - 1 : Nat) : Int) = oppC (bt s (i : Int))
      · rw [if_pos (hlast.mpr hq), if_pos ⟨hne, hq⟩, txt_pop]
        exact ih (i + 1) k _ (by omega) (by omega) (by omega) (by rw [List.length_dropLast]; omega) (fun x hx => hb x (by rw [List.dropLast_eq_take] at hx; exact List.mem_of_mem_take hx))
      · rw [if_neg (fun h => hq (hlast.mp h)), if_pos (by omega), if_pos (by omega), e3, if_pos (by omega), if_neg (by intro h; exact hq h.2), txt_step s i (by omega), txt_snoc]
        exact hpush
theorem ShrinkPath_agree (s : ByteArray) (hl : s.size ≤ 1048576) : ∃ K r1 r2, ∀ k, K ≤ k → spec_ShrinkPath.f k s = some (r1, r2) ∧ impl_ShrinkPath.f k s = some (r1, r2) := by
  cases hp : pathB s with
  | false =>
    refine ⟨s.size + 4, ⟨#[]⟩, false, fun k hk => ?_⟩
    unfold spec_ShrinkPath.f impl_ShrinkPath.f
    rw [spec_IsPath_f s k (by omega), impl_IsPath_f s k (by omega), hp]
    simp
  | true =>
    have hs := path_size hp
    refine ⟨s.size + 4, txt (shr s s.size 0 []), true, fun k hk => ?_⟩
    unfold spec_ShrinkPath.f impl_ShrinkPath.f
    rw [spec_IsPath_f s k (by omega), impl_IsPath_f s k (by omega), hp]
    simp only [Option.bind_some, if_true]
    exact ⟨spec_shr_l0 s hs s.size 0 k [] (by omega) (by omega) (by omega) (by simp) (by simp), impl_shr_l0 s hp s.size 0 k [] (by omega) (by omega) (by omega) (by simp)⟩
end Go.Proofs.YtckmmpknaengjaaDoor.Q
