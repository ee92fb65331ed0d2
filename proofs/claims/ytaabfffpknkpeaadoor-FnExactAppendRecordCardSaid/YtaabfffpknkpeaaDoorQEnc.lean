import Derived.Test.YtaabfffpknkpeaaDoorPx5
import Derived.Test.YtaabfffpknkpeaaDoorPx4
import Derived.Test.YtaabfffpknkpeaaDoorPx3
import Derived.Test.YtaabfffpknkpeaaDoorPx2
import Derived.Test.YtaabfffpknkpeaaDoorPx1
import Derived.Test.YtaabfffpknkpeaaDoorQNum
/- Plain facts on records that are encoded. -/
namespace Go.Proofs.YtaabfffpknkpeaaDoor.Q
open Go.RowKit Go.Proofs.YtaabfffpknkpeaaDoor.Px Go.Proofs.YtaabfffpknkpeaaDoor.Giv Go.Proofs.YtaabfffpknkpeaaDoorW.PrintWords Go.Proofs.YtaabfffpknkpeaaDoorW.PrintLast Go.Proofs.YtaabfffpknkpeaaDoorW.PrintMore
set_option linter.unusedVariables false
set_option linter.unusedSimpArgs false
def csum (s : ByteArray) : Nat → Nat → Int → Int
  | 0, _, x => x
  | d + 1, i, x => csum s d (i + 1) (Int.tmod (wrap64 ((wrap64 ((wrap64 (41 * x)) + (wrap64 (bt s (i : Int))))) + 1)) 999979)
theorem spec_sum_l0 (s : ByteArray) (hs : s.size ≤ 1099511627776) : ∀ (d i k : Nat) (x : Int), s.size - i = d → i ≤ s.size → d < k → spec_l1Sum.l0 k s x (i : Int) = some (csum s d i x) := by
  intro d
  induction d with
  | zero =>
    intro i k x hd hi hk
    obtain ⟨k, rfl⟩ : ∃ m, k = m + 1 := ⟨k - 1, by omega⟩
    rw [spec_l1Sum.l0, if_neg (by omega)]
    rfl
  | succ d ih =>
    intro i k x hd hi hk
    obtain ⟨k, rfl⟩ : ∃ m, k = m + 1 := ⟨k - 1, by omega⟩
    have e : wrap64 ((i : Int) + 1) = ((i + 1 : Nat) : Int) := by have h_ := wrap_id ((i : Int) + 1) (by omega) (by omega); omega
    rw [spec_l1Sum.l0, if_pos (by omega), if_pos (by omega), e, ih (i + 1) k _ (by omega) (by omega) (by omega)]
    rfl
theorem impl_sum_l0 (s : ByteArray) (hs : s.size ≤ 1099511627776) : ∀ (d i k : Nat) (x : Int), s.size - i = d → i ≤ s.size → d < k → impl_checksum.l0 k s x (s.size : Int) (i : Int) = some (csum s d i x) := by
  intro d
  induction d with
  | zero =>
    intro i k x hd hi hk
    obtain ⟨k, rfl⟩ : ∃ m, k = m + 1 := ⟨k - 1, by omega⟩
    rw [impl_checksum.l0, if_neg (by omega)]
    rfl
  | succ d ih =>
    intro i k x hd hi hk
    obtain ⟨k, rfl⟩ : ∃ m, k = m + 1 := ⟨k - 1, by omega⟩
    have e : wrap64 ((i : Int) + 1) = ((i + 1 : Nat) : Int) := by have h_ := wrap_id ((i : Int) + 1) (by omega) (by omega); omega
    rw [impl_checksum.l0, if_pos (by omega), if_pos (by omega), if_pos (by omega), e, ih (i + 1) k _ (by omega) (by omega) (by omega)]
    rfl
theorem csum_range (s : ByteArray) : ∀ (d i : Nat) (x : Int), 0 ≤ x ∧ x < 999979 → 0 ≤ csum s d i x ∧ csum s d i x < 999979
  | 0, i, x, h => h
  | d + 1, i, x, h => by
    have hb := bt_range s (i : Int)
    simp only [csum]
    refine csum_range s d (i + 1) _ ?_
    rw [wrap_id (41 * x) (by omega) (by omega), wrap_id (bt s (i : Int)) (by omega) (by omega), wrap_id (41 * x + bt s (i : Int)) (by omega) (by omega), wrap_id (41 * x + bt s (i : Int) + 1) (by omega) (by omega)]
    have h1 : 0 ≤ 41 * x + bt s (i : Int) + 1 := by omega
    rw [Int.tmod_eq_emod_of_nonneg h1]
    omega
def sumN (s : ByteArray) : Nat := (csum s s.size 0 7).toNat
theorem sumN_is (s : ByteArray) : csum s s.size 0 7 = (sumN s : Int) ∧ sumN s < 10 ^ 6 := by
  have h := csum_range s s.size 0 7 (by omega)
  unfold sumN
  omega
theorem l1Sum_f (s : ByteArray) (hs : s.size ≤ 1099511627776) (k : Nat) (hk : s.size < k) : spec_l1Sum.f k s = some (sumN s : Int) := by
  unfold spec_l1Sum.f
  rw [show (0 : Int) = ((0 : Nat) : Int) from rfl, spec_sum_l0 s hs s.size 0 k 7 (by omega) (by omega) hk, (sumN_is s).1]
theorem checksum_f (s : ByteArray) (hs : s.size ≤ 1099511627776) (k : Nat) (hk : s.size < k) : impl_checksum.f k s = some (sumN s : Int) := by
  unfold impl_checksum.f
  rw [show (0 : Int) = ((0 : Nat) : Int) from rfl, impl_sum_l0 s hs s.size 0 k 7 (by omega) (by omega) hk, (sumN_is s).1]
/-- A text with its checksum. -/
def sealT (s : ByteArray) : ByteArray := (s ++ ⟨#[35]⟩) ++ digs (sumN s)
theorem size_lit (x : UInt8) : (⟨#[x]⟩ : ByteArray).size = 1 := rfl
theorem sum_len (s : ByteArray) : (digs (sumN s)).size ≤ 6 := by
  rw [digs_len]
  exact dec_len 5 (sumN s) (sumN_is s).2
theorem l1Seal_f (s : ByteArray) (hs : s.size ≤ 5000) (k : Nat) (hk : s.size + 10 < k) : spec_l1Seal.f k s = some (sealT s) := by
  unfold spec_l1Seal.f
  have h1 := sum_len s
  rw [if_pos (by omega), l1Sum_f s (by omega) k (by omega), Option.bind_some, num_f 5 (sumN s) k (sumN_is s).2 (by omega) (by omega), Option.bind_some, if_pos (by omega)]
  rfl
theorem AppendChecksum_f (s : ByteArray) (hs : s.size ≤ 3000) (hh : hasB s 35 = false) (k : Nat) (hk : s.size + 10 < k) : impl_AppendChecksum.f k s = some (sealT s, true) := by
  obtain ⟨k, rfl⟩ : ∃ m, k = m + 1 := ⟨k - 1, by omega⟩
  unfold impl_AppendChecksum.f
  have h1 := sum_len s
  have h2 := (sumN_is s).2
  rw [if_neg (by omega), contains_f, hh, Option.bind_some, impl_AppendChecksum.j0, if_neg (by simp), if_pos (by omega), checksum_f s (by omega) k (by omega), Option.bind_some, itoa_f (sumN s) (by omega), Option.bind_some, if_pos (by omega), if_neg (by omega)]
  rfl
theorem hasB_append (a b : ByteArray) (c : UInt8) : hasB (a ++ b) c = (hasB a c || hasB b c) := by
  unfold hasB
  rw [ByteArray.data_append, Array.toList_append, List.contains_append]
theorem plain_no : ∀ (s : ByteArray) (d i : Nat), plainFrom s d i = true → standsFrom s 35 d i = false
  | s, 0, i, _ => rfl
  | s, d + 1, i, h => by
    simp only [plainFrom] at h
    simp only [standsFrom]
    cases hp : plainC (bt s (i : Int)) with
    | false => rw [hp] at h; simp at h
    | true =>
      rw [hp, if_pos rfl] at h
      have hne : ¬ bt s (i : Int) = 35 := by
        intro he
        rw [he] at hp
        exact absurd hp (by decide)
      rw [if_neg hne]
      exact plain_no s d (i + 1) h
theorem plain_hash (s : ByteArray) (h : plainS s = true) : hasB s 35 = false := by
  have h1 := plain_no s s.size 0 h
  have h2 := stands_list s 35 s.size 0 (by omega)
  rw [List.drop_zero] at h2
  unfold hasB
  rw [← h2]
  exact h1
theorem digs_hash : ∀ n : Fin 60, hasB (digs n.val) 35 = false := by
  intro n
  have h : ∀ n : Nat, n < 60 → (Lib.decDigits n).contains 35 = false := by
    intro n hn
    by_cases h1 : n < 10
    · rw [Lib.decDigits, dif_pos h1]
      have : ∀ d : Fin 10, ([UInt8.ofNat (48 + d.val)] : List UInt8).contains 35 = false := by decide +kernel
      exact this ⟨n, h1⟩
    · rw [Lib.decDigits, dif_neg h1, Lib.decDigits, dif_pos (by omega)]
      have : ∀ d e : Fin 10, ([UInt8.ofNat (48 + d.val)] ++ [UInt8.ofNat (48 + e.val)] : List UInt8).contains 35 = false := by decide +kernel
      exact this ⟨n / 10, by omega⟩ ⟨n % 10, by omega⟩
  unfold hasB digs
  exact h n.val n.isLt
theorem impl_valid_f (c r : ByteArray) (hc : c.size ≤ 1048576) (hr : r.size ≤ 1048576) (k : Nat) (hk : c.size + r.size < k) : impl_IsValidRecord.f k c r = some (recB c r) := by
  unfold impl_IsValidRecord.f
  rw [isCommand_f c hc k (by omega), isPlain_f r (by omega) k (by omega)]
  unfold recB
  rw [Option.bind_some]
  cases hx : (decide (1 ≤ c.size) && decide (c.size ≤ 160) && plainS c && !hasB c 64) with
  | false => simp
  | true =>
    rw [if_pos rfl]
    by_cases h1 : r.size ≤ 250
    · rw [if_pos (by omega), decide_eq_true h1]; simp
    · rw [if_neg (by omega), decide_eq_false h1]; simp
/-- A record's text. -/
def recT (n : Nat) (c r : ByteArray) : ByteArray := (((digs n ++ ⟨#[32]⟩) ++ c) ++ ⟨#[64]⟩) ++ r
theorem EncodeRecord_agree (a0 : Int) (c r : ByteArray) (hc : c.size ≤ 1048576) (hr : r.size ≤ 1048576) : ∃ K r1 r2, ∀ k, K ≤ k → spec_EncodeRecord.f k a0 c r = some (r1, r2) ∧ impl_EncodeRecord.f k a0 c r = some (r1, r2) := by
  by_cases h0 : 0 ≤ a0 ∧ a0 ≤ 59
  · obtain ⟨n, rfl⟩ := Int.eq_ofNat_of_zero_le h0.1
    cases hv : recB c r with
    | false =>
      refine ⟨c.size + r.size + 10, ⟨#[]⟩, false, fun k hk => ?_⟩
      obtain ⟨k, rfl⟩ : ∃ m, k = m + 1 := ⟨k - 1, by omega⟩
      unfold spec_EncodeRecord.f impl_EncodeRecord.f
      rw [in_f, decide_eq_true h0, Option.bind_some, if_pos rfl, l12Record_f c r hc hr _ (by omega), hv, if_neg (by omega), if_neg (by omega), impl_valid_f c r hc hr _ (by omega), hv, Option.bind_some, Option.bind_some, if_neg (by simp), impl_EncodeRecord.j0, if_pos (by simp)]
      exact ⟨rfl, rfl⟩
    | true =>
      have hv2 := hv
      unfold recB at hv2
      simp only [Bool.and_eq_true, decide_eq_true_eq] at hv2
      obtain ⟨⟨⟨⟨hc1, hc2⟩, hc3⟩, hc4⟩, hr1, hr2⟩ := hv2
      have hd : (digs n).size ≤ 2 := by rw [digs_len]; exact dec_len 1 n (by omega)
      have hts : (recT n c r).size = (digs n).size + 1 + c.size + 1 + r.size := by unfold recT; simp only [ByteArray.size_append, size_lit]
      have hth : hasB (recT n c r) 35 = false := by
        unfold recT
        rw [hasB_append, hasB_append, hasB_append, hasB_append, plain_hash c hc3, plain_hash r hr2, digs_hash ⟨n, by omega⟩]
        rfl
      have hsz : (sealT (recT n c r)).size ≤ 1000 := by
        have h1 := sum_len (recT n c r)
        unfold sealT
        rw [ByteArray.size_append, ByteArray.size_append, size_lit]
        omega
      refine ⟨c.size + r.size + 5000, sealT (recT n c r) ++ ⟨#[10]⟩, true, fun k hk => ?_⟩
      obtain ⟨k, rfl⟩ : ∃ m, k = m + 1 := ⟨k - 1, by omega⟩
      unfold spec_EncodeRecord.f impl_EncodeRecord.f
      rw [in_f, decide_eq_true h0, Option.bind_some, if_pos rfl, l12Record_f c r hc hr _ (by omega), hv, if_neg (by omega), if_neg (by omega), impl_valid_f c r hc hr _ (by omega), hv, Option.bind_some, Option.bind_some, if_pos rfl, impl_EncodeRecord.j0, if_neg (by simp)]
      unfold spec_l12Line.f
      rw [num_f 1 n (k + 1) (by omega) (by omega) (by omega), itoa_f n (by omega), Option.bind_some, Option.bind_some]
      have e1 : (digs n).size + 1 ≤ 9223372036854775807 := by omega
      have e2 : (digs n).size + 1 + c.size ≤ 9223372036854775807 := by omega
      have e3 : (digs n).size + 1 + c.size + 1 ≤ 9223372036854775807 := by omega
      have e4 : (digs n).size + 1 + c.size + 1 + r.size ≤ 9223372036854775807 := by omega
      simp only [if_pos e1, if_pos e2, if_pos e3, if_pos e4]
      have s1 := l1Seal_f (recT n c r) (by omega) (k + 1) (by omega)
      have s2 := AppendChecksum_f (recT n c r) (by omega) hth k (by omega)
      unfold recT at s1 s2 hsz ⊢
      rw [s1, s2, Option.bind_some, Option.bind_some, if_pos (by omega)]
      simp only [if_true, Option.bind_some]
      rw [if_pos (by omega)]
      refine ⟨?_, ?_⟩ <;> first | trivial | rfl
  · refine ⟨c.size + r.size + 10, ⟨#[]⟩, false, fun k hk => ?_⟩
    obtain ⟨k, rfl⟩ : ∃ m, k = m + 1 := ⟨k - 1, by omega⟩
    unfold spec_EncodeRecord.f impl_EncodeRecord.f
    rw [in_f, decide_eq_false h0, Option.bind_some, if_neg (by simp)]
    refine ⟨rfl, ?_⟩
    by_cases h1 : a0 < 0
    · rw [if_pos h1, impl_EncodeRecord.j0, if_pos rfl]
    · rw [if_neg h1, if_pos (by omega), impl_EncodeRecord.j0, if_pos rfl]
end Go.Proofs.YtaabfffpknkpeaaDoor.Q
