/- What the row of FnExactCrashLog leans on (part 6): of the printed words and functions, of the contracts and of the plain facts only what it uses; no condition of its own. -/
import Derived.Test.YtaabfffpknkpeaaDoorZFnExactCrashLog5
import Derived.Lib.ItoaNum
import Derived.Lib.ItoaMem
section
namespace Go.Proofs.YtaabfffpknkpeaaDoor.Q
open Go.RowKit Go.Proofs.YtaabfffpknkpeaaDoor.Px Go.Proofs.YtaabfffpknkpeaaDoor.Giv Go.Proofs.YtaabfffpknkpeaaDoorW.PrintWords Go.Proofs.YtaabfffpknkpeaaDoorW.PrintLast Go.Proofs.YtaabfffpknkpeaaDoorW.PrintMore
set_option linter.unusedVariables false
set_option linter.unusedSimpArgs false
def digs (u : Nat) : ByteArray := ⟨(Lib.decDigits u).toArray⟩
theorem one_digit : ∀ d : Fin 10, (⟨#[48, 49, 50, 51, 52, 53, 54, 55, 56, 57]⟩ : ByteArray).extract d.val (d.val + 1) = ⟨#[UInt8.ofNat (48 + d.val)]⟩ := by
  intro d
  apply ByteArray.ext
  apply Array.ext'
  revert d
  decide +kernel
theorem digs_small (u : Nat) (h : u < 10) : digs u = ⟨#[UInt8.ofNat (48 + u)]⟩ := by
  unfold digs
  rw [Lib.decDigits, dif_pos h]
theorem digs_step (u : Nat) (h : ¬ u < 10) : digs u = digs (u / 10) ++ ⟨#[UInt8.ofNat (48 + u % 10)]⟩ := by
  apply ByteArray.ext
  rw [ByteArray.data_append]
  unfold digs
  simp only []
  rw [Lib.decDigits, dif_neg h]
  simp
theorem digs_len (u : Nat) : (digs u).size = (Lib.decDigits u).length := by
  unfold digs
  show (Lib.decDigits u).toArray.size = _
  simp
theorem dec_len : ∀ (m u : Nat), u < 10 ^ (m + 1) → (Lib.decDigits u).length ≤ m + 1
  | 0, u, h => by
    rw [Lib.decDigits, dif_pos (by omega)]
    simp
  | m + 1, u, h => by
    by_cases h1 : u < 10
    · rw [Lib.decDigits, dif_pos h1]; simp
    · rw [Lib.decDigits, dif_neg h1, List.length_append, List.length_singleton]
      have := dec_len m (u / 10) (by rw [Nat.pow_succ] at h; omega)
      omega
theorem num_f : ∀ (m u k : Nat), u < 10 ^ (m + 1) → m ≤ 15 → m + 1 < k → spec_l1Num.f k (u : Int) = some (digs u) := by
  intro m
  induction m with
  | zero =>
    intro u k h hm hk
    obtain ⟨k, rfl⟩ : ∃ q, k = q + 1 := ⟨k - 1, by omega⟩
    have hu : u < 10 := by omega
    have e : wrap64 ((u : Int) + 1) = ((u + 1 : Nat) : Int) := by have h_ := wrap_id ((u : Int) + 1) (by omega) (by omega); omega
    rw [spec_l1Num.f, if_neg (by omega), if_pos (by omega), if_pos (by omega), e, if_pos (by omega), if_pos (by omega), Int.toNat_natCast, Int.toNat_natCast, digs_small u hu]
    exact congrArg some (one_digit ⟨u, hu⟩)
  | succ m ih =>
    intro u k h hm hk
    obtain ⟨k, rfl⟩ : ∃ q, k = q + 1 := ⟨k - 1, by omega⟩
    by_cases hu : u < 10
    · have e : wrap64 ((u : Int) + 1) = ((u + 1 : Nat) : Int) := by have h_ := wrap_id ((u : Int) + 1) (by omega) (by omega); omega
      rw [spec_l1Num.f, if_neg (by omega), if_pos (by omega), if_pos (by omega), e, if_pos (by omega), if_pos (by omega), Int.toNat_natCast, Int.toNat_natCast, digs_small u hu]
      exact congrArg some (one_digit ⟨u, hu⟩)
    · have hdiv : u / 10 < 10 ^ (m + 1) := by rw [Nat.pow_succ] at h; omega
      have hbig : u < 10 ^ 17 := Nat.lt_of_lt_of_le h (Nat.pow_le_pow_right (by omega) (by omega))
      have e1 : wrap64 (Int.tdiv (u : Int) 10) = ((u / 10 : Nat) : Int) := by
        have h_ := wrap_id ((u / 10 : Nat) : Int) (by omega) (by omega)
        rw [← h_]
        rfl
      have e2 : Int.tmod (u : Int) 10 = ((u % 10 : Nat) : Int) := rfl
      have e3 : wrap64 (((u % 10 : Nat) : Int) + 1) = ((u % 10 + 1 : Nat) : Int) := by have h_ := wrap_id (((u % 10 : Nat) : Int) + 1) (by omega) (by omega); omega
      have hl := dec_len m (u / 10) hdiv
      rw [← digs_len] at hl
      have h1 := one_digit ⟨u % 10, by omega⟩
      simp only at h1
      have hs1 : (⟨#[UInt8.ofNat (48 + u % 10)]⟩ : ByteArray).size = 1 := rfl
      rw [spec_l1Num.f, if_neg (by omega), if_neg (by omega), e1, ih (u / 10) k hdiv (by omega) (by omega), Option.bind_some, e2, if_pos (by omega), e3, if_pos (by omega), if_pos (by omega), Int.toNat_natCast, Int.toNat_natCast, h1, if_pos (by omega), digs_step u hu]
theorem itoa_f (u : Nat) (h : u ≤ 1000000000) : strconv_Itoa.f (u : Int) = some (digs u) := by
  unfold strconv_Itoa.f
  rw [if_pos (by omega), Lib.itoa_nonneg]
  rfl
end Go.Proofs.YtaabfffpknkpeaaDoor.Q
end
section
namespace Go.Proofs.YtaabfffpknkpeaaDoor.Q
open Go.RowKit Go.Proofs.YtaabfffpknkpeaaDoor.Px Go.Proofs.YtaabfffpknkpeaaDoor.Giv Go.Proofs.YtaabfffpknkpeaaDoorW.PrintWords Go.Proofs.YtaabfffpknkpeaaDoorW.PrintLast Go.Proofs.YtaabfffpknkpeaaDoorW.PrintMore
set_option linter.unusedVariables false
set_option linter.unusedSimpArgs false
def csum (s : ByteArray) : Nat → Nat → Int → Int
  | 0, _, x => x
  | d + 1, i, x => csum s d (i + 1) (Int.tmod (wrap64 ((wrap64 ((wrap64 (41 * x)) + (wrap64 (bt s (i : Int))))) + 1)) 999979)
theorem spec_sum_l0 (s : ByteArray) (hs : s.size ≤ 1099511627776) : ∀ (d i k : Nat) (x : Int), s.size - i = d → i ≤ s.size → d < k → spec_l1Sum.l0 k s x (i : Int) = some (csum s d i x) := by
  intro d
  induction d with
  | zero =>
    intro i k x hd hi hk
    obtain ⟨k, rfl⟩ : ∃ m, k = m + 1 := ⟨k - 1, by omega⟩
    rw [spec_l1Sum.l0, if_neg (by omega)]
    rfl
  | succ d ih =>
    intro i k x hd hi hk
    obtain ⟨k, rfl⟩ : ∃ m, k = m + 1 := ⟨k - 1, by omega⟩
    have e : wrap64 ((i : Int) + 1) = ((i + 1 : Nat) : Int) := by have h_ := wrap_id ((i : Int) + 1) (by omega) (by omega); omega
    rw [spec_l1Sum.l0, if_pos (by omega), if_pos (by omega), e, ih (i + 1) k _ (by omega) (by omega) (by omega)]
    rfl
theorem impl_sum_l0 (s : ByteArray) (hs : s.size ≤ 1099511627776) : ∀ (d i k : Nat) (x : Int), s.size - i = d → i ≤ s.size → d < k → impl_checksum.l0 k s x (s.size : Int) (i : Int) = some (csum s d i x) := by
  intro d
  induction d with
  | zero =>
    intro i k x hd hi hk
    obtain ⟨k, rfl⟩ : ∃ m, k = m + 1 := ⟨k - 1, by omega⟩
    rw [impl_checksum.l0, if_neg (by omega)]
    rfl
  | succ d ih =>
    intro i k x hd hi hk
    obtain ⟨k, rfl⟩ : ∃ m, k = m + 1 := ⟨k - 1, by omega⟩
    have e : wrap64 ((i : Int) + 1) = ((i + 1 : Nat) : Int) := by have h_ := wrap_id ((i : Int) + 1) (by omega) (by omega); omega
    rw [impl_checksum.l0, if_pos (by omega), if_pos (by omega), if_pos (by omega), e, ih (i + 1) k _ (by omega) (by omega) (by omega)]
    rfl
theorem csum_range (s : ByteArray) : ∀ (d i : Nat) (x : Int), 0 ≤ x ∧ x < 999979 → 0 ≤ csum s d i x ∧ csum s d i x < 999979
  | 0, i, x, h => h
  | d + 1, i, x, h => by
    have hb := bt_range s (i : Int)
    simp only [csum]
    refine csum_range s d (i + 1) _ ?_
    rw [wrap_id (41 * x) (by omega) (by omega), wrap_id (bt s (i : Int)) (by omega) (by omega), wrap_id (41 * x + bt s (i : Int)) (by omega) (by omega), wrap_id (41 * x + bt s (i : Int) + 1) (by omega) (by omega)]
    have h1 : 0 ≤ 41 * x + bt s (i : Int) + 1 := by omega
    rw [Int.tmod_eq_emod_of_nonneg h1]
    omega
def sumN (s : ByteArray) : Nat := (csum s s.size 0 7).toNat
theorem sumN_is (s : ByteArray) : csum s s.size 0 7 = (sumN s : Int) ∧ sumN s < 10 ^ 6 := by
  have h := csum_range s s.size 0 7 (by omega)
  unfold sumN
  omega
theorem l1Sum_f (s : ByteArray) (hs : s.size ≤ 1099511627776) (k : Nat) (hk : s.size < k) : spec_l1Sum.f k s = some (sumN s : Int) := by
  unfold spec_l1Sum.f
  rw [show (0 : Int) = ((0 : Nat) : Int) from rfl, spec_sum_l0 s hs s.size 0 k 7 (by omega) (by omega) hk, (sumN_is s).1]
theorem checksum_f (s : ByteArray) (hs : s.size ≤ 1099511627776) (k : Nat) (hk : s.size < k) : impl_checksum.f k s = some (sumN s : Int) := by
  unfold impl_checksum.f
  rw [show (0 : Int) = ((0 : Nat) : Int) from rfl, impl_sum_l0 s hs s.size 0 k 7 (by omega) (by omega) hk, (sumN_is s).1]
def sealT (s : ByteArray) : ByteArray := (s ++ ⟨#[35]⟩) ++ digs (sumN s)
theorem size_lit (x : UInt8) : (⟨#[x]⟩ : ByteArray).size = 1 := rfl
theorem sum_len (s : ByteArray) : (digs (sumN s)).size ≤ 6 := by
  rw [digs_len]
  exact dec_len 5 (sumN s) (sumN_is s).2
theorem l1Seal_f (s : ByteArray) (hs : s.size ≤ 5000) (k : Nat) (hk : s.size + 10 < k) : spec_l1Seal.f k s = some (sealT s) := by
  unfold spec_l1Seal.f
  have h1 := sum_len s
  rw [if_pos (by omega), l1Sum_f s (by omega) k (by omega), Option.bind_some, num_f 5 (sumN s) k (sumN_is s).2 (by omega) (by omega), Option.bind_some, if_pos (by omega)]
  rfl
theorem AppendChecksum_f (s : ByteArray) (hs : s.size ≤ 3000) (hh : hasB s 35 = false) (k : Nat) (hk : s.size + 10 < k) : impl_AppendChecksum.f k s = some (sealT s, true) := by
  obtain ⟨k, rfl⟩ : ∃ m, k = m + 1 := ⟨k - 1, by omega⟩
  unfold impl_AppendChecksum.f
  have h1 := sum_len s
  have h2 := (sumN_is s).2
  rw [if_neg (by omega), contains_f, hh, Option.bind_some, impl_AppendChecksum.j0, if_neg (by simp), if_pos (by omega), checksum_f s (by omega) k (by omega), Option.bind_some, itoa_f (sumN s) (by omega), Option.bind_some, if_pos (by omega), if_neg (by omega)]
  rfl
theorem impl_valid_f (c r : ByteArray) (hc : c.size ≤ 1048576) (hr : r.size ≤ 1048576) (k : Nat) (hk : c.size + r.size < k) : impl_IsValidRecord.f k c r = some (recB c r) := by
  unfold impl_IsValidRecord.f
  rw [isCommand_f c hc k (by omega), isPlain_f r (by omega) k (by omega)]
  unfold recB
  rw [Option.bind_some]
  cases hx : (decide (1 ≤ c.size) && decide (c.size ≤ 160) && plainS c && !hasB c 64) with
  | false => simp
  | true =>
    rw [if_pos rfl]
    by_cases h1 : r.size ≤ 250
    · rw [if_pos (by omega), decide_eq_true h1]; simp
    · rw [if_neg (by omega), decide_eq_false h1]; simp
def recT (n : Nat) (c r : ByteArray) : ByteArray := (((digs n ++ ⟨#[32]⟩) ++ c) ++ ⟨#[64]⟩) ++ r
end Go.Proofs.YtaabfffpknkpeaaDoor.Q
end
section
namespace Go.Proofs.YtaabfffpknkpeaaDoor.Q
open Go.RowKit Go.Proofs.YtaabfffpknkpeaaDoor.Px Go.Proofs.YtaabfffpknkpeaaDoor.Giv Go.Proofs.YtaabfffpknkpeaaDoorW.PrintWords Go.Proofs.YtaabfffpknkpeaaDoorW.PrintLast Go.Proofs.YtaabfffpknkpeaaDoorW.PrintMore
set_option linter.unusedVariables false
set_option linter.unusedSimpArgs false
theorem idx_here : ∀ (l1 l2 : List UInt8) (c : UInt8), c ∉ l1 → Lib.indexByte (l1 ++ c :: l2) c = (l1.length : Int)
  | [], l2, c, _ => by simp [Lib.indexByte]
  | b :: l1, l2, c, h => by
    have ih := idx_here l1 l2 c (fun h1 => h (List.mem_cons_of_mem _ h1))
    have hb : (b == c) = false := by
      have : b ≠ c := fun h1 => h (h1 ▸ List.mem_cons_self)
      simpa using this
    show Lib.indexByte (b :: (l1 ++ c :: l2)) c = _
    unfold Lib.indexByte
    have hne : ¬ ((l1.length : Int) == -1) = true := by simp
    rw [hb, ih, if_neg (by simp), if_neg hne, List.length_cons]
    omega
theorem idx_none : ∀ (l : List UInt8) (c : UInt8), c ∉ l → Lib.indexByte l c = -1
  | [], c, _ => by simp [Lib.indexByte]
  | b :: l, c, h => by
    have ih := idx_none l c (fun h1 => h (List.mem_cons_of_mem _ h1))
    have hb : (b == c) = false := by
      have : b ≠ c := fun h1 => h (h1 ▸ List.mem_cons_self)
      simpa using this
    unfold Lib.indexByte
    rw [hb, ih, if_neg (by simp), if_pos (by simp)]
theorem idx_split (l : List UInt8) (c : UInt8) (h : c ∈ l) : ∃ l1 l2, l = l1 ++ c :: l2 ∧ c ∉ l1 := List.eq_append_cons_of_mem h
theorem dec_range (n : Nat) : ∀ b ∈ Lib.decDigits n, 48 ≤ b.toNat ∧ b.toNat ≤ 57 := by
  induction n using Nat.strongRecOn with
  | _ n ih =>
    intro b hb
    rw [Lib.decDigits] at hb
    have h1 : ∀ d, d < 10 → ∀ b ∈ [UInt8.ofNat (48 + d)], 48 ≤ b.toNat ∧ b.toNat ≤ 57 := by
      intro d hd b hb
      rw [List.mem_singleton.1 hb]
      have : (UInt8.ofNat (48 + d)).toNat = 48 + d := by simp; omega
      omega
    split at hb
    · exact h1 n (by omega) b hb
    · rcases List.mem_append.1 hb with hb | hb
      · exact ih (n / 10) (by omega) b hb
      · exact h1 (n % 10) (by omega) b hb
theorem wrap_succ (i : Nat) (h : i ≤ 1099511627776) : wrap64 ((i : Int) + 1) = ((i + 1 : Nat) : Int) := by have h_ := wrap_id ((i : Int) + 1) (by omega) (by omega); omega
theorem wrap_add (a b : Nat) (h : a + b ≤ 1099511627776) : wrap64 ((a : Int) + (b : Int)) = ((a + b : Nat) : Int) := by have h_ := wrap_id ((a : Int) + (b : Int)) (by omega) (by omega); omega
def BL (s : ByteArray) : List UInt8 := s.data.toList
theorem BL_inj {a b : ByteArray} (h : BL a = BL b) : a = b := ByteArray.ext (Array.ext' h)
theorem BL_append (a b : ByteArray) : BL (a ++ b) = BL a ++ BL b := by unfold BL; rw [ByteArray.data_append, Array.toList_append]
theorem BL_len (a : ByteArray) : (BL a).length = a.size := by unfold BL; simp
theorem BL_extract (a : ByteArray) (i j : Nat) : BL (a.extract i j) = ((BL a).drop i).take (j - i) := by
  unfold BL
  rw [ByteArray.data_extract, Array.toList_extract, List.extract_eq_take_drop]
theorem BL_suffix (a : ByteArray) (i : Nat) : BL (a.extract i a.size) = (BL a).drop i := by
  rw [BL_extract, List.take_of_length_le (by rw [List.length_drop, BL_len]; omega)]
theorem BL_prefix (a : ByteArray) (j : Nat) : BL (a.extract 0 j) = (BL a).take j := by
  rw [BL_extract, List.drop_zero, Nat.sub_zero]
theorem toList_BL (a : ByteArray) : a.toList = BL a := Lib.toList_data a
theorem toList_eq (a b : ByteArray) : a.toList = b.toList ↔ a = b := by
  rw [toList_BL, toList_BL]
  exact ⟨BL_inj, fun h => by rw [h]⟩
theorem hasB_iff (s : ByteArray) (c : UInt8) : hasB s c = true ↔ c ∈ BL s := by unfold hasB BL; exact List.contains_iff_mem
theorem hasB_not (s : ByteArray) (c : UInt8) : hasB s c = false ↔ c ∉ BL s := by
  rw [← hasB_iff]; simp
def mkB (l : List UInt8) : ByteArray := ⟨l.toArray⟩
theorem BL_mk (l : List UInt8) : BL (mkB l) = l := rfl
def headB (s : ByteArray) (c : UInt8) : ByteArray := if 0 ≤ Lib.indexByte (BL s) c then s.extract 0 (Lib.indexByte (BL s) c).toNat else s
def tailB (s : ByteArray) (c : UInt8) : ByteArray := if 0 ≤ Lib.indexByte (BL s) c then s.extract ((Lib.indexByte (BL s) c).toNat + 1) s.size else ⟨#[]⟩
theorem cut_f (s : ByteArray) (c : UInt8) (hs : s.size ≤ 1099511627776) : strings_Cut.f s ⟨#[c]⟩ = some (headB s c, tailB s c, hasB s c) := by
  show (if s.size ≤ 1099511627776 then some (if 0 ≤ Lib.indexByte (BL s) c then (s.extract 0 (Lib.indexByte (BL s) c).toNat, s.extract ((Lib.indexByte (BL s) c).toNat + 1) s.size, true) else (s, ⟨#[]⟩, false)) else none) = _
  have h := index_pos (BL s) c
  rw [if_pos hs]
  unfold headB tailB
  have h2 : hasB s c = decide (0 ≤ Lib.indexByte (BL s) c) := by rw [h]; rfl
  by_cases h0 : 0 ≤ Lib.indexByte (BL s) c
  · rw [if_pos h0, if_pos h0, if_pos h0, h2, decide_eq_true h0]
  · rw [if_neg h0, if_neg h0, if_neg h0, h2, decide_eq_false h0]
theorem headB_at {s a b : ByteArray} {c : UInt8} (h : BL s = BL a ++ c :: BL b) (ha : c ∉ BL a) : headB s c = a ∧ tailB s c = b ∧ hasB s c = true := by
  have hi : Lib.indexByte (BL s) c = (a.size : Int) := by rw [h, idx_here _ _ _ ha, BL_len]
  unfold headB tailB
  rw [hi, if_pos (by omega), if_pos (by omega), Int.toNat_natCast]
  refine ⟨BL_inj ?_, BL_inj ?_, (hasB_iff s c).2 (by rw [h]; simp)⟩
  · rw [BL_prefix, h, List.take_append_of_le_length (by rw [BL_len]; omega), List.take_of_length_le (by rw [BL_len]; omega)]
  · rw [BL_suffix, h, List.drop_append, List.drop_of_length_le (by rw [BL_len]; omega), BL_len, Nat.add_sub_cancel_left]
    rfl
theorem headB_no {s : ByteArray} {c : UInt8} (h : c ∉ BL s) : headB s c = s ∧ tailB s c = ⟨#[]⟩ := by
  unfold headB tailB
  rw [idx_none _ _ h, if_neg (by omega), if_neg (by omega)]
  exact ⟨rfl, rfl⟩
theorem headB_split {s : ByteArray} {c : UInt8} (h : hasB s c = true) : BL s = BL (headB s c) ++ c :: BL (tailB s c) ∧ c ∉ BL (headB s c) := by
  obtain ⟨l1, l2, h1, h2⟩ := idx_split _ _ ((hasB_iff s c).1 h)
  obtain ⟨e1, e2, _⟩ := headB_at (s := s) (a := mkB l1) (b := mkB l2) (c := c) (by rw [BL_mk, BL_mk]; exact h1) (by rw [BL_mk]; exact h2)
  rw [e1, e2, BL_mk, BL_mk]
  exact ⟨h1, h2⟩
theorem headB_size (s : ByteArray) (c : UInt8) : (headB s c).size ≤ s.size ∧ (tailB s c).size ≤ s.size := by
  cases h : hasB s c with
  | true =>
    have h1 := congrArg List.length (headB_split h).1
    rw [List.length_append, List.length_cons, BL_len, BL_len, BL_len] at h1
    omega
  | false =>
    obtain ⟨e1, e2⟩ := headB_no ((hasB_not s c).1 h)
    rw [e1, e2]
    exact ⟨Nat.le_refl _, Nat.zero_le _⟩
def tw (s : ByteArray) (c : UInt8) (i : Nat) : Nat := (((BL s).drop i).takeWhile (fun b => b != c)).length
theorem split_l0 (s : ByteArray) (c : UInt8) (hs : s.size ≤ 1099511627776) : ∀ (d i k : Nat) (out : List ByteArray) (a : Nat), s.size - i = d → i ≤ s.size → d < k → a ≤ i → out.length ≤ i →
    ∃ p rest, spec_l1Split.l0 k s (c.toNat : Int) out (a : Int) (i : Int) = some (out ++ p :: rest) ∧ p = s.extract a (i + tw s c i) ∧ (rest = [] ↔ c ∉ (BL s).drop i) := by
  intro d
  induction d with
  | zero =>
    intro i k out a hd hi hk ha ho
    obtain ⟨k, rfl⟩ : ∃ m, k = m + 1 := ⟨k - 1, by omega⟩
    have hdr : (BL s).drop i = [] := List.drop_of_length_le (by rw [BL_len]; omega)
    refine ⟨_, [], ?_, rfl, by rw [hdr]; simp⟩
    rw [spec_l1Split.l0, if_neg (by omega), if_pos (by omega), if_pos (by omega), if_pos (by omega), Int.toNat_natCast]
    have : i + tw s c i = s.size := by unfold tw; rw [hdr]; show i + 0 = s.size; omega
    rw [this]
  | succ d ih =>
    intro i k out a hd hi hk ha ho
    obtain ⟨k, rfl⟩ : ∃ m, k = m + 1 := ⟨k - 1, by omega⟩
    obtain ⟨b, hb, hv⟩ := bt_data s i (by omega)
    have hl : (BL s).length = s.size := BL_len s
    have hdr : (BL s).drop i = b :: (BL s).drop (i + 1) := by
      rw [List.drop_eq_getElem_cons (by omega)]
      congr 1
      have hb' : (BL s)[i]? = some b := hb
      rw [List.getElem?_eq_getElem (by omega)] at hb'
      exact Option.some.inj hb'
    rw [spec_l1Split.l0, if_pos (by omega), if_pos (by omega), wrap_succ i (by omega)]
    by_cases h : b = c
    · subst h
      obtain ⟨p, rest, h1, _, _⟩ := ih (i + 1) k (out ++ [s.extract a i]) (i + 1) (by omega) (by omega) (by omega) (by omega) (by rw [List.length_append, List.length_singleton]; omega)
      refine ⟨s.extract a i, p :: rest, ?_, ?_, ?_⟩
      · rw [if_pos hv, if_pos (by omega), if_pos (by omega), if_pos (by omega), if_pos (by omega), Int.toNat_natCast, Int.toNat_natCast, h1, List.append_assoc]
        rfl
      · have : tw s b i = 0 := by unfold tw; rw [hdr, List.takeWhile_cons]; simp
        rw [this, Nat.add_zero]
      · rw [hdr]; simp
    · obtain ⟨p, rest, h1, h2, h3⟩ := ih (i + 1) k out a (by omega) (by omega) (by omega) (by omega) (by omega)
      have hn : ¬ (bt s (i : Int) = (c.toNat : Int)) := by
        intro h4
        apply h
        have : b.toNat = c.toNat := by omega
        exact UInt8.toNat_inj.mp this
      refine ⟨p, rest, ?_, ?_, ?_⟩
      · rw [if_neg hn]; exact h1
      · have hbc : (b != c) = true := by simpa using h
        have : tw s c i = tw s c (i + 1) + 1 := by unfold tw; rw [hdr, List.takeWhile_cons, if_pos hbc, List.length_cons]
        rw [h2, this]
        congr 1
        omega
      · rw [h3, hdr, List.mem_cons, not_or]
        exact ⟨fun h5 => ⟨fun h6 => h h6.symm, h5⟩, fun h5 => h5.2⟩
theorem tw_head (s : ByteArray) (c : UInt8) : s.extract 0 (tw s c 0) = headB s c := by
  cases h : hasB s c with
  | true =>
    obtain ⟨h1, h2⟩ := headB_split h
    have : tw s c 0 = (headB s c).size := by
      unfold tw
      rw [List.drop_zero, h1, List.takeWhile_append_of_pos (by intro b hb; have h5 : b ≠ c := (fun e => by subst e; exact h2 hb); simpa using h5), List.takeWhile_cons]
      simp [BL_len]
    rw [this]
    apply BL_inj
    rw [BL_prefix]
    conv => lhs; rw [h1]
    rw [List.take_append_of_le_length (by rw [BL_len]; omega), List.take_of_length_le (by rw [BL_len]; omega)]
  | false =>
    have h1 := (hasB_not s c).1 h
    have h2 : ((BL s).takeWhile (fun b => b != c)) = BL s := by
      have h6 : ∀ l : List UInt8, c ∉ l → l.takeWhile (fun b => b != c) = l := by
        intro l
        induction l with
        | nil => intro _; rfl
        | cons b l ih =>
          intro h7
          have h5 : b ≠ c := fun e => h7 (by rw [e]; exact List.mem_cons_self)
          rw [List.takeWhile_cons, if_pos (by simpa using h5), ih (fun h8 => h7 (List.mem_cons_of_mem _ h8))]
      exact h6 _ h1
    have : tw s c 0 = s.size := by unfold tw; rw [List.drop_zero, h2, BL_len]
    rw [this, (headB_no h1).1]
    apply BL_inj
    rw [BL_prefix, List.take_of_length_le (by rw [BL_len]; omega)]
theorem split_f (s : ByteArray) (c : UInt8) (b : Int) (hb : b = (c.toNat : Int)) (hs : s.size ≤ 1099511627776) (k : Nat) (hk : s.size < k) : ∃ rest, spec_l1Split.f k s b = some (headB s c :: rest) ∧ (rest = [] ↔ hasB s c = false) := by
  obtain ⟨p, rest, h1, h2, h3⟩ := split_l0 s c hs s.size 0 k [] 0 (by omega) (by omega) hk (by omega) (by simp)
  refine ⟨rest, ?_, ?_⟩
  · unfold spec_l1Split.f
    rw [hb, ← tw_head, show (0 : Int) = ((0 : Nat) : Int) from rfl, h1, h2, Nat.zero_add]
    rfl
  · rw [h3, hasB_not, List.drop_zero]
end Go.Proofs.YtaabfffpknkpeaaDoor.Q
end
section
namespace Go.Proofs.YtaabfffpknkpeaaDoor.Q
open Go.RowKit Go.Proofs.YtaabfffpknkpeaaDoor.Px Go.Proofs.YtaabfffpknkpeaaDoor.Giv Go.Proofs.YtaabfffpknkpeaaDoorW.PrintWords Go.Proofs.YtaabfffpknkpeaaDoorW.PrintLast Go.Proofs.YtaabfffpknkpeaaDoorW.PrintMore
set_option linter.unusedVariables false
set_option linter.unusedSimpArgs false
theorem plain_bytes (s : ByteArray) : ∀ (d i : Nat), i + d = s.size → plainFrom s d i = true → ∀ b ∈ (BL s).drop i, 32 ≤ b.toNat ∧ b.toNat ≤ 126 ∧ b.toNat ≠ 35 := by
  intro d
  induction d with
  | zero =>
    intro i hi _ b hb
    rw [List.drop_of_length_le (by rw [BL_len]; omega)] at hb
    cases hb
  | succ d ih =>
    intro i hi hp b hb
    obtain ⟨x, hx, hv⟩ := bt_data s i (by omega)
    have hl : (BL s).length = s.size := BL_len s
    have hdr : (BL s).drop i = x :: (BL s).drop (i + 1) := by
      rw [List.drop_eq_getElem_cons (by omega)]
      congr 1
      have hx' : (BL s)[i]? = some x := hx
      rw [List.getElem?_eq_getElem (by omega)] at hx'
      exact Option.some.inj hx'
    simp only [plainFrom] at hp
    cases hc : plainC (bt s (i : Int)) with
    | false => rw [hc] at hp; simp at hp
    | true =>
      rw [hc, if_pos rfl] at hp
      rw [hdr] at hb
      rcases List.mem_cons.1 hb with rfl | hb
      · unfold plainC at hc
        rw [hv] at hc
        simp only [Bool.and_eq_true, decide_eq_true_eq, Bool.not_eq_true', decide_eq_false_iff_not] at hc
        omega
      · exact ih (i + 1) (by omega) hp b hb
theorem plainS_bytes {s : ByteArray} (h : plainS s = true) : ∀ b ∈ BL s, 32 ≤ b.toNat ∧ b.toNat ≤ 126 ∧ b.toNat ≠ 35 := by
  have h1 := plain_bytes s s.size 0 (by omega) h
  rw [List.drop_zero] at h1
  exact h1
theorem recB_parts {c r : ByteArray} (h : recB c r = true) : 1 ≤ c.size ∧ c.size ≤ 160 ∧ plainS c = true ∧ hasB c 64 = false ∧ r.size ≤ 250 ∧ plainS r = true := by
  unfold recB at h
  simp only [Bool.and_eq_true, decide_eq_true_eq, Bool.not_eq_true'] at h
  obtain ⟨⟨⟨⟨h1, h2⟩, h3⟩, h4⟩, h5, h6⟩ := h
  exact ⟨h1, h2, h3, h4, h5, h6⟩
theorem digs_bytes (n : Nat) : ∀ b ∈ BL (digs n), 48 ≤ b.toNat ∧ b.toNat ≤ 57 := by
  intro b hb
  exact dec_range n b hb
theorem lit_bytes (x : UInt8) : BL ⟨#[x]⟩ = [x] := rfl
def crT (c r : ByteArray) : ByteArray := (c ++ ⟨#[64]⟩) ++ r
theorem recT_BL (n : Nat) (c r : ByteArray) : BL (recT n c r) = BL (digs n) ++ 32 :: BL (crT c r) := by
  unfold recT crT
  simp only [BL_append, lit_bytes, List.append_assoc, List.cons_append, List.nil_append]
theorem crT_BL (c r : ByteArray) : BL (crT c r) = BL c ++ 64 :: BL r := by
  unfold crT
  simp only [BL_append, lit_bytes, List.append_assoc, List.cons_append, List.nil_append]
theorem sealT_BL (s : ByteArray) : BL (sealT s) = BL s ++ 35 :: BL (digs (sumN s)) := by
  unfold sealT
  simp only [BL_append, lit_bytes, List.append_assoc, List.cons_append, List.nil_append]
def encT (n : Nat) (c r : ByteArray) : ByteArray := sealT (recT n c r) ++ ⟨#[10]⟩
theorem encT_BL (n : Nat) (c r : ByteArray) : BL (encT n c r) = BL (sealT (recT n c r)) ++ [10] := by
  unfold encT
  rw [BL_append, lit_bytes]
theorem recT_bytes {n : Nat} {c r : ByteArray} (h : recB c r = true) : ∀ b ∈ BL (recT n c r), 32 ≤ b.toNat ∧ b.toNat ≤ 126 ∧ b.toNat ≠ 35 := by
  obtain ⟨_, _, h3, _, _, h6⟩ := recB_parts h
  intro b hb
  rw [recT_BL, crT_BL] at hb
  rcases List.mem_append.1 hb with hb | hb
  · have := digs_bytes n b hb; omega
  · rcases List.mem_cons.1 hb with rfl | hb
    · decide
    · rcases List.mem_append.1 hb with hb | hb
      · exact plainS_bytes h3 b hb
      · rcases List.mem_cons.1 hb with rfl | hb
        · decide
        · exact plainS_bytes h6 b hb
theorem sealT_no10 {n : Nat} {c r : ByteArray} (h : recB c r = true) : (10 : UInt8) ∉ BL (sealT (recT n c r)) := by
  intro hb
  rw [sealT_BL] at hb
  rcases List.mem_append.1 hb with hb | hb
  · have := recT_bytes h _ hb; exact absurd this.1 (by decide)
  · rcases List.mem_cons.1 hb with hb | hb
    · exact absurd hb (by decide)
    · have := digs_bytes _ _ hb; exact absurd this.1 (by decide)
theorem recT_no35 {n : Nat} {c r : ByteArray} (h : recB c r = true) : (35 : UInt8) ∉ BL (recT n c r) := by
  intro hb
  exact (recT_bytes h _ hb).2.2 rfl
theorem digs_no32 (n : Nat) : (32 : UInt8) ∉ BL (digs n) := by
  intro hb
  exact absurd (digs_bytes n _ hb).1 (by decide)
theorem recT_size (n : Nat) (c r : ByteArray) : (recT n c r).size = (digs n).size + 1 + c.size + 1 + r.size := by unfold recT; simp only [ByteArray.size_append, size_lit]
theorem digs_small_len {n : Nat} (h : n < 100) : (digs n).size ≤ 2 := by rw [digs_len]; exact dec_len 1 n (by omega)
theorem sealT_size (s : ByteArray) : (sealT s).size ≤ s.size + 7 ∧ s.size ≤ (sealT s).size := by
  have h1 := sum_len s
  unfold sealT
  rw [ByteArray.size_append, ByteArray.size_append, size_lit]
  omega
theorem encT_size {n : Nat} {c r : ByteArray} (hn : n < 60) (h : recB c r = true) : 1 ≤ (encT n c r).size ∧ (encT n c r).size ≤ 500 := by
  obtain ⟨_, h2, _, _, h5, _⟩ := recB_parts h
  have h1 := sealT_size (recT n c r)
  rw [recT_size] at h1
  have h3 := digs_small_len (n := n) (by omega)
  unfold encT
  rw [ByteArray.size_append, size_lit]
  omega
theorem encT_seal (n : Nat) (c r : ByteArray) : (encT n c r).size = (sealT (recT n c r)).size + 1 := by unfold encT; rw [ByteArray.size_append, size_lit]
def starts (s : ByteArray) (n : Nat) (c r : ByteArray) : Prop := n < 60 ∧ recB c r = true ∧ BL (encT n c r) <+: BL s
theorem line_of_enc {s : ByteArray} {n : Nat} {c r : ByteArray} (h : starts s n c r) : headB s 10 = sealT (recT n c r) ∧ hasB s 10 = true := by
  obtain ⟨h1, h2, t, ht⟩ := h
  rw [encT_BL, List.append_assoc] at ht
  obtain ⟨e1, _, e3⟩ := headB_at (s := s) (a := sealT (recT n c r)) (b := mkB t) (c := 10) (by rw [BL_mk, ← ht]; rfl) (sealT_no10 h2)
  exact ⟨e1, e3⟩
theorem body_of_seal {n : Nat} {c r : ByteArray} (h : recB c r = true) : headB (sealT (recT n c r)) 35 = recT n c r :=
  (headB_at (sealT_BL _) (recT_no35 h)).1
theorem rest_of_rec (n : Nat) (c r : ByteArray) : tailB (recT n c r) 32 = crT c r := (headB_at (recT_BL n c r) (digs_no32 n)).2.1
theorem parts_of_cr {c r : ByteArray} (h : recB c r = true) : headB (crT c r) 64 = c ∧ tailB (crT c r) 64 = r ∧ hasB (crT c r) 64 = true :=
  headB_at (crT_BL c r) ((hasB_not c 64).1 (recB_parts h).2.2.2.1)
theorem starts_one {s : ByteArray} {n : Nat} {c r c' r' : ByteArray} (h : starts s n c r) (h' : starts s n c' r') : c = c' ∧ r = r' := by
  have e1 := (line_of_enc h).1.symm.trans (line_of_enc h').1
  have e2 := body_of_seal (n := n) h.2.1
  rw [e1, body_of_seal h'.2.1] at e2
  have e3 := rest_of_rec n c r
  rw [← e2, rest_of_rec] at e3
  have e4 := parts_of_cr h.2.1
  rw [← e3] at e4
  have e5 := parts_of_cr h'.2.1
  exact ⟨e4.1.symm.trans e5.1, e4.2.1.symm.trans e5.2.1⟩
theorem append_total (s : ByteArray) (hs : s.size ≤ 100000) (k : Nat) (hk : s.size + 10 < k) : ∃ r b, impl_AppendChecksum.f k s = some (r, b) := by
  obtain ⟨k, rfl⟩ : ∃ m, k = m + 1 := ⟨k - 1, by omega⟩
  unfold impl_AppendChecksum.f
  have h1 := sum_len s
  have h2 := (sumN_is s).2
  by_cases h4 : (s.size : Int) > 4000
  · rw [if_pos h4, impl_AppendChecksum.j0, if_pos rfl]; exact ⟨_, _, rfl⟩
  · rw [if_neg h4, contains_f, Option.bind_some]
    cases hasB s 35 with
    | true => rw [impl_AppendChecksum.j0, if_pos rfl]; exact ⟨_, _, rfl⟩
    | false =>
      rw [impl_AppendChecksum.j0, if_neg (by simp), if_pos (by omega), checksum_f s (by omega) k (by omega), Option.bind_some, itoa_f (sumN s) (by omega), Option.bind_some, if_pos (by omega)]
      by_cases h5 : ((s.size : Int) + 1 + ((digs (sumN s)).size : Int)) > 4000
      · rw [if_pos h5]; exact ⟨_, _, rfl⟩
      · rw [if_neg h5]; exact ⟨_, _, rfl⟩
theorem verify_total (s : ByteArray) (hs : s.size ≤ 100000) (k : Nat) (hk : s.size + 10 < k) : ∃ r b, impl_VerifyChecksum.f k s = some (r, b) ∧ r.size ≤ s.size := by
  unfold impl_VerifyChecksum.f
  have hz := (headB_size s 35).1
  obtain ⟨r, b, h⟩ := append_total (headB s 35) (by omega) k (by omega)
  rw [cut_f s 35 (by omega), Option.bind_some, h, Option.bind_some]
  cases b with
  | false => exact ⟨_, _, rfl, Nat.zero_le _⟩
  | true =>
    simp only [if_true]
    by_cases h1 : r.toList = s.toList
    · rw [if_pos h1]; exact ⟨_, _, rfl, hz⟩
    · rw [if_neg h1]; exact ⟨_, _, rfl, Nat.zero_le _⟩
theorem verify_seal {n : Nat} {c r : ByteArray} (hn : n < 60) (h : recB c r = true) (k : Nat) (hk : 1000 < k) : impl_VerifyChecksum.f k (sealT (recT n c r)) = some (recT n c r, true) := by
  obtain ⟨_, h2, _, _, h5, _⟩ := recB_parts h
  have h3 := digs_small_len (n := n) (by omega)
  have h1 := sealT_size (recT n c r)
  have h4 := recT_size n c r
  unfold impl_VerifyChecksum.f
  rw [cut_f _ 35 (by omega), Option.bind_some, body_of_seal h, AppendChecksum_f (recT n c r) (by omega) ((hasB_not _ 35).2 (recT_no35 h)) k (by omega), Option.bind_some]
  simp only [if_true]
theorem line_f {n : Nat} {c r : ByteArray} (hn : n < 100) (h : recB c r = true) (k : Nat) (hk : 1000 < k) : spec_l12Line.f k (n : Int) c r = some (encT n c r) := by
  obtain ⟨_, h2, _, _, h5, _⟩ := recB_parts h
  have h3 := digs_small_len (n := n) (by omega)
  have h1 := sealT_size (recT n c r)
  have h4 := recT_size n c r
  unfold spec_l12Line.f
  rw [num_f 1 n k (by omega) (by omega) (by omega), Option.bind_some, if_pos (by omega), if_pos (by omega), if_pos (by omega), if_pos (by omega)]
  have s1 := l1Seal_f (recT n c r) (by omega) k (by omega)
  have h9 : (sealT (recT n c r)).size ≤ 1000 := by omega
  unfold recT at s1 h9
  rw [s1, Option.bind_some, if_pos (by omega)]
  rfl
theorem encode_f {n : Nat} {c r : ByteArray} (hn : n < 60) (h : recB c r = true) (k : Nat) (hk : 1000 < k) : impl_EncodeRecord.f k (n : Int) c r = some (encT n c r, true) := by
  obtain ⟨k, rfl⟩ : ∃ m, k = m + 1 := ⟨k - 1, by omega⟩
  obtain ⟨_, h2, _, _, h5, _⟩ := recB_parts h
  have h3 := digs_small_len (n := n) (by omega)
  have h1 := sealT_size (recT n c r)
  have h4 := recT_size n c r
  unfold impl_EncodeRecord.f
  rw [if_neg (by omega), if_neg (by omega), impl_valid_f c r (by omega) (by omega) _ (by omega), h, Option.bind_some, impl_EncodeRecord.j0, if_neg (by simp), itoa_f n (by omega), Option.bind_some, if_pos (by omega), if_pos (by omega), if_pos (by omega), if_pos (by omega)]
  have s2 := AppendChecksum_f (recT n c r) (by omega) ((hasB_not _ 35).2 (recT_no35 h)) k (by omega)
  have h9 : (sealT (recT n c r)).size ≤ 1000 := by omega
  unfold recT at s2 h9
  rw [s2, Option.bind_some]
  simp only [if_true]
  rw [if_pos (by omega)]
  rfl
theorem encode_no {n : Nat} {c r : ByteArray} (hc : c.size ≤ 100000) (hr : r.size ≤ 100000) (h : ¬ (n < 60 ∧ recB c r = true)) (k : Nat) (hk : c.size + r.size + 10 < k) : impl_EncodeRecord.f k (n : Int) c r = some (⟨#[]⟩, false) := by
  obtain ⟨k, rfl⟩ : ∃ m, k = m + 1 := ⟨k - 1, by omega⟩
  unfold impl_EncodeRecord.f
  rw [if_neg (by omega)]
  by_cases hn : n < 60
  · have h2 : recB c r = false := by
      cases hb : recB c r with
      | false => rfl
      | true => exact absurd ⟨hn, hb⟩ h
    rw [if_neg (by omega), impl_valid_f c r (by omega) (by omega) _ (by omega), h2, Option.bind_some, impl_EncodeRecord.j0, if_pos (by simp)]
  · rw [if_pos (by omega), impl_EncodeRecord.j0, if_pos rfl]
theorem next_sound (s : ByteArray) (n : Nat) (hs : s.size ≤ 100000) (k : Nat) (hk : 250000 < k) : ∃ c r code ok, impl_nextRecord.f k s (n : Int) = some (c, r, code, ok) ∧ (ok = true → starts s n c r ∧ code = encT n c r) := by
  obtain ⟨k, rfl⟩ : ∃ m, k = m + 1 := ⟨k - 1, by omega⟩
  have hz := (headB_size s 10).1
  obtain ⟨t, b, h1, hz1⟩ := verify_total (headB s 10) (by omega) (k + 1) (by omega)
  unfold impl_nextRecord.f
  rw [cut_f s 10 (by omega), Option.bind_some, h1, Option.bind_some]
  have stop : ∃ c r code ok, impl_nextRecord.j0 (k + 1) s (n : Int) t true = some (c, r, code, ok) ∧ (ok = true → starts s n c r ∧ code = encT n c r) := by
    rw [impl_nextRecord.j0, if_pos rfl]
    exact ⟨_, _, _, _, rfl, fun h => by cases h⟩
  cases hasB s 10 with
  | false => exact stop
  | true =>
    cases b with
    | false => exact stop
    | true =>
      have hz2 := (headB_size t 32).2
      have hz3 := headB_size (tailB t 32) 64
      simp only [if_true]
      rw [impl_nextRecord.j0, if_neg (by simp), cut_f t 32 (by omega), Option.bind_some, cut_f (tailB t 32) 64 (by omega), Option.bind_some]
      by_cases hv : n < 60 ∧ recB (headB (tailB t 32) 64) (tailB (tailB t 32) 64) = true
      · have hf := encode_f hv.1 hv.2 k (by omega)
        simp only [hf, Option.bind_some, if_true]
        refine ⟨_, _, _, _, rfl, fun h => ⟨⟨hv.1, hv.2, ?_⟩, rfl⟩⟩
        exact List.isPrefixOf_iff_prefix.1 h
      · have hf := encode_no (n := n) (c := headB (tailB t 32) 64) (r := tailB (tailB t 32) 64) (by omega) (by omega) hv k (by omega)
        simp only [hf, Option.bind_some]
        exact ⟨_, _, _, _, rfl, fun h => by cases h⟩
theorem next_comp {s : ByteArray} {n : Nat} {c r : ByteArray} (h : starts s n c r) (hs : s.size ≤ 100000) (k : Nat) (hk : 250000 < k) : impl_nextRecord.f k s (n : Int) = some (c, r, encT n c r, true) := by
  obtain ⟨k, rfl⟩ : ∃ m, k = m + 1 := ⟨k - 1, by omega⟩
  obtain ⟨_, h2, _, _, h5, _⟩ := recB_parts h.2.1
  have hn := h.1
  have h3 := digs_small_len (n := n) (by omega)
  have h4 := recT_size n c r
  have h6 : (crT c r).size = c.size + 1 + r.size := by unfold crT; simp only [ByteArray.size_append, size_lit]
  obtain ⟨l1, l2⟩ := line_of_enc h
  obtain ⟨p1, p2, p3⟩ := parts_of_cr h.2.1
  unfold impl_nextRecord.f
  rw [cut_f s 10 (by omega), Option.bind_some, l1, l2, verify_seal hn h.2.1 (k + 1) (by omega), Option.bind_some]
  simp only [if_true]
  rw [impl_nextRecord.j0, if_neg (by simp), cut_f (recT n c r) 32 (by omega), Option.bind_some, rest_of_rec, cut_f (crT c r) 64 (by omega), p1, p2, p3, Option.bind_some, encode_f hn h.2.1 k (by omega), Option.bind_some]
  simp only [if_true]
  have hp : strings_HasPrefix.f s (encT n c r) = some true := by
    show some (Lib.hasPrefix (BL s) (BL (encT n c r))) = some true
    congr 1
    exact List.isPrefixOf_iff_prefix.2 h.2.2
  rw [hp, Option.bind_some]
theorem decode_comp {n : Nat} {c r : ByteArray} (hn : n < 60) (h : recB c r = true) (k : Nat) (hk : 250000 < k) : spec_l12Decode.f k (sealT (recT n c r)) (n : Int) = some (c, r, true) := by
  obtain ⟨k, rfl⟩ : ∃ m, k = m + 1 := ⟨k - 1, by omega⟩
  obtain ⟨_, h2, _, _, h5, _⟩ := recB_parts h
  have h3 := digs_small_len (n := n) (by omega)
  have h4 := recT_size n c r
  have h1 := sealT_size (recT n c r)
  have h6 : (crT c r).size = c.size + 1 + r.size := by unfold crT; simp only [ByteArray.size_append, size_lit]
  obtain ⟨p1, p2, p3⟩ := parts_of_cr h
  obtain ⟨q1, hq1, _⟩ := split_f (sealT (recT n c r)) 35 35 rfl (by omega) (k + 1) (by omega)
  have ha : (digs n ++ (⟨#[32]⟩ : ByteArray)).size = (digs n).size + 1 := by rw [ByteArray.size_append, size_lit]
  unfold spec_l12Decode.f
  rw [num_f 1 n (k + 1) (by omega) (by omega) (by omega), Option.bind_some, if_pos (by omega), hq1, Option.bind_some, body_of_seal h]
  have e0 : rdOf ByteArray.empty (recT n c r :: q1) 0 = recT n c r := rfl
  simp only [e0]
  have hpre : (recT n c r).extract 0 ((digs n).size + 1) = digs n ++ (⟨#[32]⟩ : ByteArray) := by
    apply BL_inj
    rw [BL_prefix, recT_BL, BL_append, lit_bytes, List.take_append, List.take_of_length_le (by rw [BL_len]; omega), BL_len, Nat.add_sub_cancel_left]
    rfl
  have hsuf : (recT n c r).extract ((digs n).size + 1) (recT n c r).size = crT c r := by
    apply BL_inj
    rw [BL_suffix, recT_BL, List.drop_append, List.drop_of_length_le (by rw [BL_len]; omega), BL_len, Nat.add_sub_cancel_left]
    rfl
  have t1 : (((digs n).size : Int) + 1).toNat = (digs n).size + 1 := by omega
  rw [if_pos (by simp only [List.length_cons]; omega), if_neg (by omega), if_pos (by omega), if_pos (by omega), t1, hpre, spec_l12Decode.j0, if_neg (by simp), ha, if_pos (by omega), if_pos (by omega), hsuf]
  obtain ⟨q2, hq2, _⟩ := split_f (crT c r) 64 64 rfl (by omega) k (by omega)
  have e1 : rdOf ByteArray.empty (c :: q2) 0 = c := rfl
  have g0 : c.size ≤ 1099511627776 := by omega
  have g1 : ¬ ((c.size : Int) = ((crT c r).size : Int)) := by omega
  have g2 : (0 : Int) ≤ ((c.size + 1 : Nat) : Int) := Int.natCast_nonneg _
  have g3 : ((c.size + 1 : Nat) : Int) ≤ ((crT c r).size : Int) := by omega
  have g4 : c.size ≤ 1048576 ∧ r.size ≤ 1048576 ∧ c.size + r.size < k ∧ 1000 < k ∧ n < 100 := by omega
  have g5 : (sealT (recT n c r)).size + 1 ≤ 9223372036854775807 := by omega
  have z1 : (recT n c r).size - ((digs n).size + 1) = (crT c r).size := by omega
  have hsuf2 : (crT c r).extract (c.size + 1) (crT c r).size = r := by
    apply BL_inj
    rw [BL_suffix, crT_BL, List.drop_append, List.drop_of_length_le (by rw [BL_len]; omega), BL_len, Nat.add_sub_cancel_left]
    rfl
  rw [hq2, Option.bind_some, p1, z1]
  simp only [e1]
  rw [if_pos (show 0 < ((c :: q2).length : Int) from Int.natCast_pos.2 (Nat.succ_pos _)), if_neg g1, wrap_succ c.size g0, if_pos g2, if_pos g3, Int.toNat_natCast (c.size + 1), hsuf2, l12Record_f c r g4.1 g4.2.1 k g4.2.2.1, h, Option.bind_some, if_pos rfl, line_f g4.2.2.2.2 h k g4.2.2.2.1, Option.bind_some, if_pos g5]
  have : (encT n c r).toList == (sealT (recT n c r) ++ (⟨#[10]⟩ : ByteArray)).toList := by unfold encT; simp
  rw [this]
theorem decode_sound (s : ByteArray) (n : Nat) (hn : n ≤ 60) (hs : s.size ≤ 100000) (k : Nat) (hk : 250000 < k) : ∃ c r ok, spec_l12Decode.f k s (n : Int) = some (c, r, ok) ∧ (ok = true → recB c r = true ∧ encT n c r = s ++ ⟨#[10]⟩) := by
  obtain ⟨k, rfl⟩ : ∃ m, k = m + 1 := ⟨k - 1, by omega⟩
  have h3 := digs_small_len (n := n) (by omega)
  obtain ⟨q1, hq1, _⟩ := split_f s 35 35 rfl (by omega) (k + 1) (by omega)
  have hz := (headB_size s 35).1
  have ha : (digs n ++ (⟨#[32]⟩ : ByteArray)).size = (digs n).size + 1 := by rw [ByteArray.size_append, size_lit]
  unfold spec_l12Decode.f
  rw [num_f 1 n (k + 1) (by omega) (by omega) (by omega), Option.bind_some, if_pos (by omega), hq1, Option.bind_some]
  have e0 : rdOf ByteArray.empty (headB s 35 :: q1) 0 = headB s 35 := rfl
  simp only [e0]
  generalize headB s 35 = t at hz
  rw [if_pos (by simp only [List.length_cons]; omega)]
  have stop : ∀ a t, ∃ c r ok, spec_l12Decode.j0 (k + 1) s (n : Int) a t true = some (c, r, ok) ∧ (ok = true → recB c r = true ∧ encT n c r = s ++ ⟨#[10]⟩) := by
    intro a t
    rw [spec_l12Decode.j0, if_pos rfl]
    exact ⟨_, _, _, rfl, fun h => by cases h⟩
  by_cases h1 : (t.size : Int) < ((digs n).size : Int) + 1
  · rw [if_pos h1]; exact stop _ _
  · rw [if_neg h1, if_pos (by omega), if_pos (by omega)]
    cases hb : ((t.extract 0 ((((digs n).size : Int) + 1) : Int).toNat).toList != (digs n ++ (⟨#[32]⟩ : ByteArray)).toList) with
    | true => exact stop _ _
    | false =>
      rw [spec_l12Decode.j0, if_neg (by simp), ha, if_pos (by omega), if_pos (by omega)]
      have hu : (t.extract ((digs n).size + 1) t.size).size = t.size - ((digs n).size + 1) := by rw [ByteArray.size_extract, Nat.min_self]
      rw [← hu]
      generalize t.extract ((digs n).size + 1) t.size = u at hu
      obtain ⟨q2, hq2, _⟩ := split_f u 64 64 rfl (by omega) k (by omega)
      have hz2 := (headB_size u 64).1
      have e1 : rdOf ByteArray.empty (headB u 64 :: q2) 0 = headB u 64 := rfl
      rw [hq2, Option.bind_some]
      simp only [e1]
      generalize headB u 64 = c at hz2
      rw [if_pos (by simp only [List.length_cons]; omega)]
      by_cases h2 : (c.size : Int) = (u.size : Int)
      · rw [if_pos h2]; exact ⟨_, _, _, rfl, fun h => by cases h⟩
      · have w1 := wrap_succ c.size (by omega)
        have t2 : (((c.size + 1 : Nat) : Int)).toNat = c.size + 1 := Int.toNat_natCast (c.size + 1)
        rw [if_neg h2, w1, if_pos (by omega), if_pos (by omega), t2]
        have hr : (u.extract (c.size + 1) u.size).size ≤ u.size := by rw [ByteArray.size_extract]; omega
        generalize u.extract (c.size + 1) u.size = r at hr
        rw [l12Record_f c r (by omega) (by omega) k (by omega), Option.bind_some]
        cases hv : recB c r with
        | false => exact ⟨_, _, _, rfl, fun h => by cases h⟩
        | true =>
          rw [if_pos rfl, line_f (by omega) hv k (by omega), Option.bind_some, if_pos (by omega)]
          refine ⟨_, _, _, rfl, fun h => ⟨hv, ?_⟩⟩
          exact (toList_eq _ _).1 (by simpa using h)
end Go.Proofs.YtaabfffpknkpeaaDoor.Q
end
section
namespace Go.Proofs.YtaabfffpknkpeaaDoor.Q
open Go.RowKit Go.Proofs.YtaabfffpknkpeaaDoor.Px Go.Proofs.YtaabfffpknkpeaaDoor.Giv Go.Proofs.YtaabfffpknkpeaaDoorW.PrintWords Go.Proofs.YtaabfffpknkpeaaDoorW.PrintLast Go.Proofs.YtaabfffpknkpeaaDoorW.PrintMore
set_option linter.unusedVariables false
set_option linter.unusedSimpArgs false
attribute [local irreducible] encT sealT recT digs
open Classical in
noncomputable def nx (s : ByteArray) (n : Nat) : Option (ByteArray × ByteArray) := if h : ∃ e : ByteArray × ByteArray, starts s n e.1 e.2 then some h.choose else none
theorem nx_some {s : ByteArray} {n : Nat} {c r : ByteArray} (h : starts s n c r) : nx s n = some (c, r) := by
  have h1 : ∃ e : ByteArray × ByteArray, starts s n e.1 e.2 := ⟨(c, r), h⟩
  unfold nx
  rw [dif_pos h1]
  obtain ⟨e1, e2⟩ := starts_one h1.choose_spec h
  exact congrArg some (Prod.ext e1 e2)
theorem nx_starts {s : ByteArray} {n : Nat} {e : ByteArray × ByteArray} (h : nx s n = some e) : starts s n e.1 e.2 := by
  unfold nx at h
  split at h
  · rename_i h1
    rw [← Option.some.inj h]
    exact h1.choose_spec
  · cases h
theorem nx_none {s : ByteArray} {n : Nat} (h : ∀ c r, ¬ starts s n c r) : nx s n = none := by
  cases hn : nx s n with
  | none => rfl
  | some e => exact absurd (nx_starts hn) (h e.1 e.2)
theorem nx_no {s : ByteArray} {n : Nat} (h : nx s n = none) : ∀ c r, ¬ starts s n c r := by
  intro c r h1
  rw [nx_some h1] at h
  cases h
theorem enc_le {s : ByteArray} {n : Nat} {c r : ByteArray} (h : starts s n c r) : 1 ≤ (encT n c r).size ∧ (encT n c r).size ≤ s.size := by
  have h1 := h.2.2.length_le
  rw [BL_len, BL_len] at h1
  exact ⟨(encT_size h.1 h.2.1).1, h1⟩
noncomputable def recs : Nat → ByteArray → Nat → List (ByteArray × ByteArray)
  | 0, _, _ => []
  | d + 1, s, n => match nx s n with
    | none => []
    | some e => e :: recs d (s.extract (encT n e.1 e.2).size s.size) (n + 1)
theorem recs_none {d : Nat} {s : ByteArray} {n : Nat} (h : nx s n = none) : recs d s n = [] := by
  cases d with
  | zero => rfl
  | succ d => simp only [recs, h]
theorem recs_some {d : Nat} {s : ByteArray} {n : Nat} {e : ByteArray × ByteArray} (h : nx s n = some e) : recs (d + 1) s n = e :: recs d (s.extract (encT n e.1 e.2).size s.size) (n + 1) := by
  simp only [recs, h]
theorem recs_length : ∀ (d : Nat) (s : ByteArray) (n : Nat), (recs d s n).length ≤ d
  | 0, s, n => Nat.le_refl _
  | d + 1, s, n => by
    cases h : nx s n with
    | none => rw [recs_none h]; exact Nat.zero_le _
    | some e =>
      rw [recs_some h, List.length_cons]
      have := recs_length d (s.extract (encT n e.1 e.2).size s.size) (n + 1)
      omega
def ends : Nat → Nat → List (ByteArray × ByteArray) → List Nat
  | _, _, [] => []
  | a, n, e :: l => (a + (encT n e.1 e.2).size) :: ends (a + (encT n e.1 e.2).size) (n + 1) l
def total : Nat → List (ByteArray × ByteArray) → Nat
  | _, [] => 0
  | n, e :: l => (encT n e.1 e.2).size + total (n + 1) l
theorem ends_len : ∀ (l : List (ByteArray × ByteArray)) (a n : Nat), (ends a n l).length = l.length
  | [], _, _ => rfl
  | e :: l, a, n => by simp only [ends, List.length_cons, ends_len l]
theorem ends_last : ∀ (l : List (ByteArray × ByteArray)) (a n : Nat), (a :: ends a n l)[l.length]? = some (a + total n l)
  | [], a, n => rfl
  | e :: l, a, n => by
    have h := ends_last l (a + (encT n e.1 e.2).size) (n + 1)
    simp only [ends, total, List.length_cons, List.getElem?_cons_succ]
    rw [h]
    congr 1
    omega
theorem ends_le : ∀ (l : List (ByteArray × ByteArray)) (a n : Nat), ∀ x ∈ ends a n l, a ≤ x
  | [], _, _, x, h => by cases h
  | e :: l, a, n, x, h => by
    simp only [ends] at h
    rcases List.mem_cons.1 h with rfl | h
    · omega
    · have := ends_le l _ _ x h
      omega
def natI (n : Nat) : Int := (n : Int)
def recS (e : ByteArray × ByteArray) : S27 := ⟨e.1, e.2⟩
theorem drop_extract (s : ByteArray) (i j : Nat) (h : i ≤ s.size) : (s.extract i s.size).extract j (s.extract i s.size).size = s.extract (i + j) s.size := by
  apply BL_inj
  rw [BL_suffix, BL_suffix, BL_suffix, List.drop_drop]
theorem recs_l0 (s : ByteArray) (hs : s.size ≤ 100000) : ∀ (d k a : Nat) (out : List S27) (es : List Int), a ≤ s.size → out.length + d = 60 → es.length = out.length + 1 → 250000 + d < k →
    impl_recordsOf.l0 (k + 1) s out es (a : Int) = some (out ++ (recs d (s.extract a s.size) out.length).map recS, es ++ (ends a out.length (recs d (s.extract a s.size) out.length)).map natI) := by
  intro d
  induction d with
  | zero =>
    intro k a out es ha hd he hk
    obtain ⟨c, r, code, ok, h1, h2⟩ := next_sound (s.extract a s.size) out.length (by rw [ByteArray.size_extract]; omega) k (by omega)
    have hok : ok = false := by
      cases ok with
      | false => rfl
      | true => exact absurd (h2 rfl).1.1 (by omega)
    subst hok
    rw [impl_recordsOf.l0, if_pos (by omega), if_pos (by omega), Int.toNat_natCast, h1, Option.bind_some]
    simp [recs, ends, natI]
  | succ d ih =>
    intro k a out es ha hd he hk
    have hz : (s.extract a s.size).size = s.size - a := by rw [ByteArray.size_extract, Nat.min_self]
    cases hn : nx (s.extract a s.size) out.length with
    | none =>
      obtain ⟨c, r, code, ok, h1, h2⟩ := next_sound (s.extract a s.size) out.length (by omega) k (by omega)
      have hok : ok = false := by
        cases ok with
        | false => rfl
        | true => exact absurd (h2 rfl).1 (nx_no hn c r)
      subst hok
      rw [impl_recordsOf.l0, if_pos (by omega), if_pos (by omega), Int.toNat_natCast, h1, Option.bind_some, recs_none hn]
      simp [ends, natI]
    | some e =>
      have hst := nx_starts hn
      have h1 := enc_le hst
      have hw : wrap64 ((a : Int) + ((encT out.length e.1 e.2).size : Int)) = ((a + (encT out.length e.1 e.2).size : Nat) : Int) := by
        have h_ := wrap_id ((a : Int) + ((encT out.length e.1 e.2).size : Int)) (by omega) (by omega)
        omega
      obtain ⟨k, rfl⟩ : ∃ m, k = m + 1 := ⟨k - 1, by omega⟩
      have hrec := ih k (a + (encT out.length e.1 e.2).size) (out ++ [recS e]) (es ++ [((a + (encT out.length e.1 e.2).size : Nat) : Int)]) (by omega) (by rw [List.length_append, List.length_singleton]; omega)
      rw [impl_recordsOf.l0, if_pos (by omega), if_pos (by omega), Int.toNat_natCast, next_comp hst (by omega) (k + 1) (by omega), Option.bind_some]
      simp only [if_true]
      rw [if_pos (by omega), if_pos (by omega), hw]
      have hrec := hrec (by rw [List.length_append, List.length_append, List.length_singleton]; rw [List.length_singleton]; omega) (by omega)
      rw [List.length_append, List.length_singleton] at hrec
      show impl_recordsOf.l0 (k + 1) s (out ++ [recS e]) _ _ = _
      rw [hrec, recs_some hn, drop_extract s a _ ha]
      simp [ends, natI]
theorem recordsOf_f (s : ByteArray) (hs : s.size ≤ 100000) (k : Nat) (hk : 250100 < k) : impl_recordsOf.f k s = some ((recs 60 s 0).map recS, ((0 :: ends 0 0 (recs 60 s 0)).map natI)) := by
  obtain ⟨k, rfl⟩ : ∃ m, k = m + 1 := ⟨k - 1, by omega⟩
  have h := recs_l0 s hs 60 k 0 [] [0] (by omega) rfl rfl (by omega)
  have e : s.extract 0 s.size = s := by apply BL_inj; rw [BL_prefix, List.take_of_length_le (by rw [BL_len]; omega)]
  unfold impl_recordsOf.f
  rw [show (0 : Int) = ((0 : Nat) : Int) from rfl]
  rw [show (([((0 : Nat) : Int)] : List Int)) = [0] from rfl, h, e]
  rfl
theorem open_l0 (s : ByteArray) (hs : s.size ≤ 100000) : ∀ (d k a : Nat) (out : List S27), a ≤ s.size → out.length + d = 60 → 250000 + 2 * d < k →
    spec_l12Open.l0 (k + 2) s out (a : Int) = some (out ++ (recs d (s.extract a s.size) out.length).map recS, ((a + total out.length (recs d (s.extract a s.size) out.length) : Nat) : Int)) := by
  intro d
  induction d with
  | zero =>
    intro k a out ha hd hk
    rw [spec_l12Open.l0]
    have e : decide ((out.length : Int) < 60) = false := decide_eq_false (by omega)
    by_cases h0 : (a : Int) < (s.size : Int)
    · rw [if_pos h0, e, spec_l12Open.j1, if_neg (by simp)]
      simp [recs, total]
    · rw [if_neg h0, spec_l12Open.j1, if_neg (by simp)]
      simp [recs, total]
  | succ d ih =>
    intro k a out ha hd hk
    have hz : (s.extract a s.size).size = s.size - a := by rw [ByteArray.size_extract, Nat.min_self]
    rw [spec_l12Open.l0]
    by_cases h0 : (a : Int) < (s.size : Int)
    · have e : decide ((out.length : Int) < 60) = true := decide_eq_true (by omega)
      obtain ⟨rest, hr1, hr2⟩ := split_f (s.extract a s.size) 10 10 rfl (by omega) k (by omega)
      have e0 : rdOf ByteArray.empty (headB (s.extract a s.size) 10 :: rest) 0 = headB (s.extract a s.size) 10 := rfl
      rw [if_pos h0, e, spec_l12Open.j1, if_pos rfl, if_pos (by omega), if_pos (by omega), Int.toNat_natCast, hr1, Option.bind_some]
      simp only [e0]
      have hz2 := (headB_size (s.extract a s.size) 10).1
      rw [if_pos (show 0 < ((headB (s.extract a s.size) 10 :: rest).length : Int) from Int.natCast_pos.2 (Nat.succ_pos _))]
      cases hn : nx (s.extract a s.size) out.length with
      | none =>
        obtain ⟨c, r, ok, h1, h2⟩ := decode_sound (headB (s.extract a s.size) 10) out.length (by omega) (by omega) k (by omega)
        rw [h1, Option.bind_some, recs_none hn]
        by_cases h3 : rest = []
        · rw [if_pos (by subst h3; simp)]
          simp [total]
        · have hb : hasB (s.extract a s.size) 10 = true := by
            cases hb : hasB (s.extract a s.size) 10 with
            | true => rfl
            | false => exact absurd (hr2.2 hb) h3
          have hok : ok = false := by
            cases ok with
            | false => rfl
            | true =>
              obtain ⟨h4, h5⟩ := h2 rfl
              refine absurd ⟨by omega, h4, ?_⟩ (nx_no hn c r)
              rw [h5, BL_append, lit_bytes, (headB_split hb).1]
              exact ⟨BL (tailB (s.extract a s.size) 10), by simp⟩
          subst hok
          rw [if_neg (by
            cases rest with
            | nil => exact absurd rfl h3
            | cons x l => simp only [List.length_cons]; omega)]
          simp [total]
      | some e =>
        have hst := nx_starts hn
        have h1 := enc_le hst
        obtain ⟨l1, l2⟩ := line_of_enc hst
        have h3 : rest ≠ [] := fun h4 => by rw [hr2.1 h4] at l2; cases l2
        have hsz := encT_seal out.length e.1 e.2
        have g0 : a + (sealT (recT out.length e.1 e.2)).size ≤ 1099511627776 := by omega
        obtain ⟨k, rfl⟩ : ∃ m, k = m + 2 := ⟨k - 2, by omega⟩
        have hrec := ih k (a + (encT out.length e.1 e.2).size) (out ++ [recS e]) (by omega) (by rw [List.length_append, List.length_singleton]; omega) (by omega)
        rw [List.length_append, List.length_singleton] at hrec
        have g3 : ¬ (((sealT (recT out.length e.1 e.2) :: rest).length : Int) < 2) := by
          cases rest with
          | nil => exact absurd rfl h3
          | cons x l => simp only [List.length_cons]; omega
        have g4 : out.length < 4398046511104 := by omega
        rw [l1, decode_comp hst.1 hst.2.1 (k + 2) (by omega), Option.bind_some, if_neg g3, if_pos rfl, if_pos g4, wrap_add a (sealT (recT out.length e.1 e.2)).size g0, wrap_succ _ g0, Nat.add_assoc, ← hsz]
        show spec_l12Open.l0 (k + 2) s (out ++ [recS e]) _ = _
        rw [hrec, recs_some hn, drop_extract s a _ ha]
        simp only [List.map_cons, List.append_assoc, List.cons_append, List.nil_append, total]
        rw [Nat.add_assoc]
    · have hsm : ∀ c r, ¬ starts (s.extract a s.size) out.length c r := by
        intro c r h1
        have := enc_le h1
        omega
      rw [if_neg h0, spec_l12Open.j1, if_neg (by simp), recs_none (nx_none hsm)]
      simp [total]
theorem open_f (s : ByteArray) (hs : s.size ≤ 100000) (k : Nat) (hk : 250200 < k) : spec_l12Open.f k s = some ((recs 60 s 0).map recS, ((total 0 (recs 60 s 0) : Nat) : Int)) := by
  obtain ⟨k, rfl⟩ : ∃ m, k = m + 2 := ⟨k - 2, by omega⟩
  have h := open_l0 s hs 60 k 0 [] (by omega) rfl (by omega)
  have e : s.extract 0 s.size = s := by apply BL_inj; rw [BL_prefix, List.take_of_length_le (by rw [BL_len]; omega)]
  unfold spec_l12Open.f
  rw [show (0 : Int) = ((0 : Nat) : Int) from rfl, h, e, Nat.zero_add]
  rfl
theorem starts_more {s t : ByteArray} {n : Nat} {c r : ByteArray} (h : starts s n c r) (hp : BL s <+: BL t) : starts t n c r := ⟨h.1, h.2.1, h.2.2.trans hp⟩
theorem starts_less {s t : ByteArray} {n : Nat} {c r : ByteArray} (h : starts t n c r) (hp : BL s <+: BL t) (hl : (encT n c r).size ≤ s.size) : starts s n c r := by
  refine ⟨h.1, h.2.1, ?_⟩
  exact List.prefix_of_prefix_length_le h.2.2 hp (by rw [BL_len, BL_len]; exact hl)
theorem kept_iff : ∀ (d a n : Nat) (s t : ByteArray), BL s <+: BL t → (total n (recs d s n) = s.size ↔ a + s.size ∈ a :: ends a n (recs d t n))
  | 0, a, n, s, t, hp => by
    simp only [recs, total, ends, List.mem_singleton]
    omega
  | d + 1, a, n, s, t, hp => by
    cases hn : nx t n with
    | none =>
      have hs : nx s n = none := nx_none (fun c r h1 => nx_no hn c r (starts_more h1 hp))
      rw [recs_none hn, recs_none hs]
      simp only [total, ends, List.mem_singleton]
      omega
    | some e =>
      have hst := nx_starts hn
      have h1 := enc_le hst
      rw [recs_some hn]
      simp only [ends]
      by_cases hl : (encT n e.1 e.2).size ≤ s.size
      · have hs := nx_some (starts_less hst hp hl)
        have hp2 : BL (s.extract (encT n e.1 e.2).size s.size) <+: BL (t.extract (encT n e.1 e.2).size t.size) := by
          rw [BL_suffix, BL_suffix]
          obtain ⟨u, hu⟩ := hp
          rw [← hu, List.drop_append_of_le_length (by rw [BL_len]; exact hl)]
          exact List.prefix_append _ _
        have ih := kept_iff d (a + (encT n e.1 e.2).size) (n + 1) _ _ hp2
        have hz : (s.extract (encT n e.1 e.2).size s.size).size = s.size - (encT n e.1 e.2).size := by rw [ByteArray.size_extract, Nat.min_self]
        have e1 : a + (encT n e.1 e.2).size + (s.size - (encT n e.1 e.2).size) = a + s.size := by omega
        rw [hz, e1] at ih
        rw [recs_some (show nx s n = some e from hs)]
        simp only [total]
        rw [List.mem_cons, ← ih]
        constructor
        · intro h2; exact .inr (by omega)
        · rintro (h2 | h2)
          · omega
          · omega
      · have hs : nx s n = none := nx_none (fun c r h2 => by
          obtain ⟨e1, e2⟩ := starts_one (starts_more h2 hp) hst
          have := enc_le h2
          rw [e1, e2] at this
          omega)
        rw [recs_none hs]
        simp only [total]
        rw [List.mem_cons]
        constructor
        · intro h2; exact .inl (by omega)
        · rintro (h2 | h2)
          · omega
          · rcases List.mem_cons.1 h2 with h2 | h2
            · omega
            · have := ends_le _ _ _ _ h2
              omega
end Go.Proofs.YtaabfffpknkpeaaDoor.Q
end
section
namespace Go.Proofs.YtaabfffpknkpeaaDoor.Q
open Go.RowKit Go.Proofs.YtaabfffpknkpeaaDoor.Px Go.Proofs.YtaabfffpknkpeaaDoor.Giv Go.Proofs.YtaabfffpknkpeaaDoorW.PrintWords Go.Proofs.YtaabfffpknkpeaaDoorW.PrintLast Go.Proofs.YtaabfffpknkpeaaDoorW.PrintMore
set_option linter.unusedVariables false
set_option linter.unusedSimpArgs false
attribute [local irreducible] encT sealT recT digs
theorem ends_at (s : ByteArray) : rd ((0 :: ends 0 0 (recs 60 s 0)).map natI) ((((recs 60 s 0).map recS).length : Nat) : Int) = ((total 0 (recs 60 s 0) : Nat) : Int) := by
  have h := ends_last (recs 60 s 0) 0 0
  rw [Nat.zero_add] at h
  unfold rd
  rw [Int.toNat_natCast, List.length_map, List.getD_eq_getElem?_getD, List.getElem?_map, h]
  rfl
theorem ends_long (s : ByteArray) : ((0 :: ends 0 0 (recs 60 s 0)).map natI).length = (recs 60 s 0).length + 1 ∧ (recs 60 s 0).length ≤ 60 := by
  rw [List.length_map, List.length_cons, ends_len]
  exact ⟨rfl, recs_length 60 s 0⟩
end Go.Proofs.YtaabfffpknkpeaaDoor.Q
end
section
namespace Go.Proofs.YtaabfffpknkpeaaDoor.Q
open Go.RowKit Go.Proofs.YtaabfffpknkpeaaDoor.Px Go.Proofs.YtaabfffpknkpeaaDoor.Giv Go.Proofs.YtaabfffpknkpeaaDoorW.PrintWords Go.Proofs.YtaabfffpknkpeaaDoorW.PrintLast Go.Proofs.YtaabfffpknkpeaaDoorW.PrintMore
set_option linter.unusedVariables false
set_option linter.unusedSimpArgs false
attribute [local irreducible] encT sealT recT digs
theorem index_l0 (l : List Int) (v : Int) (hl : l.length ≤ 1099511627776) : ∀ (d i k : Nat), l.length - i = d → i ≤ l.length → d < k → ∃ r, slices_Index_int_int.l0 k l v (l.length : Int) (i : Int) = some r ∧ decide (r ≥ 0) = (l.drop i).contains v := by
  intro d
  induction d with
  | zero =>
    intro i k hd hi hk
    obtain ⟨k, rfl⟩ : ∃ m, k = m + 1 := ⟨k - 1, by omega⟩
    refine ⟨-1, ?_, ?_⟩
    · rw [slices_Index_int_int.l0, if_neg (by omega)]
    · rw [List.drop_of_length_le (by omega)]; rfl
  | succ d ih =>
    intro i k hd hi hk
    obtain ⟨k, rfl⟩ : ∃ m, k = m + 1 := ⟨k - 1, by omega⟩
    obtain ⟨r, h1, h2⟩ := ih (i + 1) k (by omega) (by omega) (by omega)
    have hdr : l.drop i = rd l (i : Int) :: l.drop (i + 1) := by
      rw [List.drop_eq_getElem_cons (by omega)]
      congr 1
      unfold rd
      rw [Int.toNat_natCast, List.getD_eq_getElem?_getD, List.getElem?_eq_getElem (by omega)]
      rfl
    rw [slices_Index_int_int.l0, if_pos (by omega), if_pos (by omega), if_pos (by omega)]
    by_cases h : v = rd l (i : Int)
    · refine ⟨(i : Int), ?_, ?_⟩
      · rw [if_pos h]
      · rw [hdr, h, List.contains_cons, decide_eq_true (by omega)]; simp
    · refine ⟨r, ?_, ?_⟩
      · rw [if_neg h, wrap_succ i (by omega)]; exact h1
      · rw [h2, hdr, List.contains_cons]
        have : (v == rd l (i : Int)) = false := by simpa using h
        rw [this, Bool.false_or]
theorem contains_int_f (l : List Int) (v : Int) (hl : l.length ≤ 1099511627776) (k : Nat) (hk : l.length < k) : slices_Contains_int_int.f k l v = some (l.contains v) := by
  obtain ⟨r, h1, h2⟩ := index_l0 l v hl l.length 0 k (by omega) (by omega) hk
  unfold slices_Contains_int_int.f slices_Index_int_int.f
  rw [show (0 : Int) = ((0 : Nat) : Int) from rfl, h1, Option.bind_some]
  rw [List.drop_zero] at h2
  rw [← h2]
  rfl
noncomputable def validB (d p : ByteArray) (c : Int) : Bool := decide (d.size + p.size ≤ 30000) && (decide (total 0 (recs 60 (d ++ p) 0) = d.size + p.size) && (decide (total 0 (recs 60 d 0) = d.size) && decide (((recs 60 (d ++ p) 0).length : Int) = c)))
theorem contains_ends (d p : ByteArray) : ((0 :: ends 0 0 (recs 60 (d ++ p) 0)).map natI).contains (d.size : Int) = decide (total 0 (recs 60 d 0) = d.size) := by
  have hp : BL d <+: BL (d ++ p) := by rw [BL_append]; exact List.prefix_append _ _
  have h := kept_iff 60 0 0 d (d ++ p) hp
  rw [Nat.zero_add] at h
  have h2 : ((0 :: ends 0 0 (recs 60 (d ++ p) 0)).map natI).contains (d.size : Int) = true ↔ d.size ∈ 0 :: ends 0 0 (recs 60 (d ++ p) 0) := by
    rw [List.contains_iff_mem, List.mem_map]
    constructor
    · rintro ⟨x, hx, hxe⟩
      have : x = d.size := by unfold natI at hxe; omega
      exact this ▸ hx
    · intro hx
      exact ⟨_, hx, rfl⟩
  rw [← h] at h2
  cases hb : ((0 :: ends 0 0 (recs 60 (d ++ p) 0)).map natI).contains (d.size : Int) with
  | true => rw [decide_eq_true (h2.1 hb)]
  | false =>
    rw [decide_eq_false]
    intro h3
    rw [h2.2 h3] at hb
    cases hb
theorem spec_valid_f (d p : ByteArray) (c : Int) (hd : d.size + p.size ≤ 1048576) (k : Nat) (hk : 250300 < k) : spec_l12Valid.f k d p c = some (validB d p c) := by
  unfold spec_l12Valid.f validB
  by_cases h0 : d.size + p.size ≤ 30000
  · have g1 : ¬ (((d.size + p.size : Nat) : Int) > 30000) := by omega
    have g2 : (d ++ p).size ≤ 100000 := by rw [ByteArray.size_append]; omega
    have g3 : d.size + p.size ≤ 9223372036854775807 := by omega
    rw [wrap_add d.size p.size (by omega), if_neg g1, if_pos g3, open_f (d ++ p) g2 k (by omega), Option.bind_some, open_f d (by omega) k (by omega), Option.bind_some, decide_eq_true h0, Bool.true_and]
    dsimp only
    by_cases h1 : total 0 (recs 60 (d ++ p) 0) = d.size + p.size
    · rw [if_pos (show ((total 0 (recs 60 (d ++ p) 0) : Nat) : Int) = ((d.size + p.size : Nat) : Int) from congrArg Int.ofNat h1), decide_eq_true h1, Bool.true_and]
      by_cases h2 : total 0 (recs 60 d 0) = d.size
      · rw [if_pos (show ((total 0 (recs 60 d 0) : Nat) : Int) = ((d.size : Nat) : Int) from congrArg Int.ofNat h2), decide_eq_true h2, Bool.true_and]
        congr 1
        rw [List.length_map]
        by_cases h3 : ((recs 60 (d ++ p) 0).length : Int) = c
        · rw [decide_eq_true h3]; simpa using h3
        · rw [decide_eq_false h3]; simpa using h3
      · rw [if_neg (show ¬ ((total 0 (recs 60 d 0) : Nat) : Int) = ((d.size : Nat) : Int) from fun h => h2 (Int.ofNat_inj.1 h)), decide_eq_false h2]; rfl
    · rw [if_neg (show ¬ ((total 0 (recs 60 (d ++ p) 0) : Nat) : Int) = ((d.size + p.size : Nat) : Int) from fun h => h1 (Int.ofNat_inj.1 h)), decide_eq_false h1]; rfl
  · have g1 : ((d.size + p.size : Nat) : Int) > 30000 := by omega
    rw [wrap_add d.size p.size (by omega), if_pos g1, decide_eq_false h0]
    rfl
theorem impl_valid_log_f (d p : ByteArray) (c : Int) (hd : d.size + p.size ≤ 1048576) (k : Nat) (hk : 250300 < k) : impl_IsValidLog.f k d p c = some (validB d p c) := by
  unfold impl_IsValidLog.f validB
  by_cases h0 : d.size + p.size ≤ 30000
  · have g1 : ¬ (((d.size + p.size : Nat) : Int) > 30000) := by omega
    have g2 : (d ++ p).size ≤ 100000 := by rw [ByteArray.size_append]; omega
    have g3 : d.size + p.size ≤ 9223372036854775807 := by omega
    have g4 := ends_long (d ++ p)
    have g5 : (((recs 60 (d ++ p) 0).map recS).length : Int) < (((0 :: ends 0 0 (recs 60 (d ++ p) 0)).map natI).length : Int) := by rw [g4.1, List.length_map]; omega
    have g6 : ((0 :: ends 0 0 (recs 60 (d ++ p) 0)).map natI).length ≤ 1099511627776 := by rw [g4.1]; omega
    have g7 : ((0 :: ends 0 0 (recs 60 (d ++ p) 0)).map natI).length < k := by rw [g4.1]; omega
    rw [wrap_add d.size p.size (by omega), if_neg g1, if_pos g3, recordsOf_f (d ++ p) g2 k (by omega), Option.bind_some, if_pos (Int.natCast_nonneg _), if_pos g5, ends_at, decide_eq_true h0, Bool.true_and]
    dsimp only
    by_cases h1 : total 0 (recs 60 (d ++ p) 0) = d.size + p.size
    · rw [if_pos (show ((total 0 (recs 60 (d ++ p) 0) : Nat) : Int) = ((d.size + p.size : Nat) : Int) from congrArg Int.ofNat h1), decide_eq_true h1, Bool.true_and, contains_int_f _ _ g6 k g7, contains_ends, Option.bind_some]
      by_cases h2 : total 0 (recs 60 d 0) = d.size
      · rw [decide_eq_true h2, if_pos rfl, Bool.true_and]
        congr 1
        rw [List.length_map]
        by_cases h3 : ((recs 60 (d ++ p) 0).length : Int) = c
        · rw [decide_eq_true h3]; simpa using h3.symm
        · rw [decide_eq_false h3]; simpa using fun h => h3 h.symm
      · rw [decide_eq_false h2, if_neg (by simp)]; rfl
    · rw [if_neg (show ¬ ((total 0 (recs 60 (d ++ p) 0) : Nat) : Int) = ((d.size + p.size : Nat) : Int) from fun h => h1 (Int.ofNat_inj.1 h)), decide_eq_false h1]; rfl
  · have g1 : ((d.size + p.size : Nat) : Int) > 30000 := by omega
    rw [wrap_add d.size p.size (by omega), if_pos g1, decide_eq_false h0]
    rfl
theorem valid_small {d p : ByteArray} {c : Int} (h : validB d p c = true) : d.size + p.size ≤ 30000 ∧ 0 ≤ c ∧ c ≤ 60 := by
  unfold validB at h
  simp only [Bool.and_eq_true, decide_eq_true_eq] at h
  have := recs_length 60 (d ++ p) 0
  omega
end Go.Proofs.YtaabfffpknkpeaaDoor.Q
end
section
namespace Go.Proofs.YtaabfffpknkpeaaDoor.Q
open Go.RowKit Go.Proofs.YtaabfffpknkpeaaDoor.Px Go.Proofs.YtaabfffpknkpeaaDoor.Giv Go.Proofs.YtaabfffpknkpeaaDoorW.PrintWords Go.Proofs.YtaabfffpknkpeaaDoorW.PrintLast Go.Proofs.YtaabfffpknkpeaaDoorW.PrintMore
set_option linter.unusedVariables false
set_option linter.unusedSimpArgs false
attribute [local irreducible] encT sealT recT digs
theorem bytes_append (a b : ByteArray) : bytesOf (a ++ b) = bytesOf a ++ bytesOf b := by
  unfold bytesOf
  rw [ByteArray.data_append, Array.toList_append, List.map_append]
theorem str_append (a b : List Int) : strOfNums (a ++ b) = strOfNums a ++ strOfNums b := by
  apply BL_inj
  rw [BL_append]
  unfold BL strOfNums
  simp
theorem str_bytes (s : ByteArray) : strOfNums (bytesOf s) = s := by
  apply BL_inj
  unfold BL strOfNums bytesOf
  simp [List.map_map, Function.comp_def]
theorem bt_behind (a b : ByteArray) (j : Nat) : bt (a ++ b) ((a.size + j : Nat) : Int) = bt b (j : Int) := by
  rw [← rd_bytesOf, ← rd_bytesOf, bytes_append]
  unfold rd
  rw [Int.toNat_natCast, Int.toNat_natCast, List.getD_eq_getElem?_getD, List.getD_eq_getElem?_getD, List.getElem?_append_right (by rw [bytesOf_length]; omega), bytesOf_length, Nat.add_sub_cancel_left]
theorem torn_behind (d x : ByteArray) (h : 0 < x.size) : d ++ tornT x = tornT (d ++ x) := by
  unfold tornT
  have e : (d ++ x).size - 1 = d.size + (x.size - 1) := by rw [ByteArray.size_append]; omega
  rw [e, bt_behind, bytes_append, List.set_append_right _ _ (by rw [bytesOf_length]; omega), bytesOf_length, Nat.add_sub_cancel_left, str_append, str_bytes]
theorem crash_same (d p : ByteArray) (n : Nat) (hn : n ≤ p.size) (torn : Bool) : crashS d p n torn = crashI d p n torn := by
  have hx : (p.extract 0 n).size = n := by rw [ByteArray.size_extract]; omega
  unfold crashS crashI
  by_cases h : torn = true ∧ 0 < n
  · rw [if_pos h, if_pos h, torn_behind _ _ (by omega)]
  · rw [if_neg h, if_neg h, str_bytes, str_bytes]
theorem CrashLog_agree (d p : ByteArray) (c keep : Int) (torn : Bool) (hd : d.size + p.size ≤ 1048576) : ∃ K r1 r2, ∀ k, K ≤ k → spec_CrashLog.f k d p c keep torn = some (r1, r2) ∧ impl_CrashLog.f k d p c keep torn = some (r1, r2) := by
  cases h : validB d p c with
  | false =>
    refine ⟨250301, ⟨#[]⟩, false, fun k hk => ?_⟩
    unfold spec_CrashLog.f impl_CrashLog.f
    rw [spec_valid_f d p c hd k (by omega), impl_valid_log_f d p c hd k (by omega), h, Option.bind_some, Option.bind_some]
    exact ⟨rfl, rfl⟩
  | true =>
    have hs := valid_small h
    by_cases hk : 0 ≤ keep ∧ keep ≤ (p.size : Int)
    · refine ⟨250301, crashI d p keep.toNat torn, true, fun k hkk => ?_⟩
      unfold spec_CrashLog.f impl_CrashLog.f
      rw [spec_valid_f d p c hd k (by omega), impl_valid_log_f d p c hd k (by omega), h, Option.bind_some, Option.bind_some, if_pos rfl, if_pos rfl, if_pos hk, if_pos hk, if_pos (by omega), if_pos (by omega), crash_same d p keep.toNat (by omega) torn]
      exact ⟨rfl, rfl⟩
    · refine ⟨250301, ⟨#[]⟩, false, fun k hkk => ?_⟩
      unfold spec_CrashLog.f impl_CrashLog.f
      rw [spec_valid_f d p c hd k (by omega), impl_valid_log_f d p c hd k (by omega), h, Option.bind_some, Option.bind_some, if_pos rfl, if_pos rfl, if_neg hk, if_neg hk]
      exact ⟨rfl, rfl⟩
end Go.Proofs.YtaabfffpknkpeaaDoor.Q
end
section
namespace Go.Proofs.YtaabfffpknkpeaaDoor.Pure
open Go.RowKit Go.Proofs.YtaabfffpknkpeaaDoor.Px Go.Proofs.YtaabfffpknkpeaaDoor.Giv Go.Proofs.YtaabfffpknkpeaaDoorW.PrintWords Go.Proofs.YtaabfffpknkpeaaDoorW.PrintLast Go.Proofs.YtaabfffpknkpeaaDoor.Q
set_option linter.unusedVariables false
set_option linter.unusedSimpArgs false
theorem obind {A B : Type} (a : A) (f : A → Option B) : (some a).bind f = f a := Eq.trans (Option.bind_some a f) rfl
theorem szl_fits (x y : ByteArray) (z : Int) (h : x.size + y.size ≤ 1048576) : laws_szLog.f x y z 1048576 = some (1048576 - (x.size : Int) - (y.size : Int)) := by
  unfold laws_szLog.f
  rw [wrap_id (1048576 - (x.size : Int)) (by omega) (by omega), if_neg (by omega), wrap_id (1048576 - (x.size : Int) - (y.size : Int)) (by omega) (by omega), if_neg (by omega)]
theorem szl_over (x y : ByteArray) (z : Int) (hx : x.size ≤ 9223372036854775807) (hy : y.size ≤ 9223372036854775807) (h : ¬ x.size + y.size ≤ 1048576) : ∃ v, laws_szLog.f x y z 1048576 = some v ∧ v < 0 := by
  unfold laws_szLog.f
  by_cases h1 : x.size ≤ 1048576
  · rw [wrap_id (1048576 - (x.size : Int)) (by omega) (by omega), if_neg (by omega), wrap_id (1048576 - (x.size : Int) - (y.size : Int)) (by omega) (by omega), if_pos (by omega)]
    exact ⟨-1, rfl, by omega⟩
  · rw [wrap_id (1048576 - (x.size : Int)) (by omega) (by omega), if_pos (by omega)]
    exact ⟨-1, rfl, by omega⟩
theorem FnExactCrashLog : laws_FnExactCrashLog.Pure := by
  intro a0_0 a0_1 a0_2 a1 a2 hy0 hy1 hy2 hy3
  simp only [maxLen] at *
  by_cases hz0 : a0_0.size + a0_1.size ≤ 1048576
  rotate_left
  · obtain ⟨v, hv, hn⟩ := szl_over a0_0 a0_1 a0_2 (by omega) (by omega) hz0
    exact ⟨0, by unfold laws_FnExactCrashLog.f; rw [hv, obind, if_pos hn]⟩
  have hsz0 := szl_fits a0_0 a0_1 a0_2 hz0
  have hsn0 : ¬ (1048576 - (a0_0.size : Int) - (a0_1.size : Int) < 0) := by omega
  obtain ⟨K, r1, r2, hA⟩ := CrashLog_agree a0_0 a0_1 a0_2 a1 a2 (by omega)
  obtain ⟨M, hM⟩ : ∃ M, M = K + 1 := ⟨_, rfl⟩
  have hS : ∀ j, spec_CrashLog.f (M + j) a0_0 a0_1 a0_2 a1 a2 = some (r1, r2) := fun j => (hA (M + j) (by omega)).1
  have hI : ∀ j, impl_CrashLog.f (M + j) a0_0 a0_1 a0_2 a1 a2 = some (r1, r2) := fun j => (hA (M + j) (by omega)).2
  clear hA hM
  refine ⟨M + 1, ?_⟩
  simp only [laws_FnExactCrashLog.f, laws_toLog.f, hsz0, hsn0, hS, hI, obind, if_true, if_false, bne_self_eq_false, Bool.false_eq_true, eq_self]
end Go.Proofs.YtaabfffpknkpeaaDoor.Pure
end
