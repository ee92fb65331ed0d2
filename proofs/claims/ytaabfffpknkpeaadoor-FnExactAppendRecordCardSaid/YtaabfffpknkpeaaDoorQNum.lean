import Derived.Test.YtaabfffpknkpeaaDoorPx1
import Derived.Test.YtaabfffpknkpeaaDoorQRec
import Derived.Test.YtaabfffpknkpeaaDoorGivO
import Derived.Lib.ItoaNum
import Derived.Lib.ItoaMem
/- Plain facts on numbers that are written, and checksums. -/
namespace Go.Proofs.YtaabfffpknkpeaaDoor.Q
open Go.RowKit Go.Proofs.YtaabfffpknkpeaaDoor.Px Go.Proofs.YtaabfffpknkpeaaDoor.Giv Go.Proofs.YtaabfffpknkpeaaDoorW.PrintWords Go.Proofs.YtaabfffpknkpeaaDoorW.PrintLast Go.Proofs.YtaabfffpknkpeaaDoorW.PrintMore
set_option linter.unusedVariables false
set_option linter.unusedSimpArgs false
def digs (u : Nat) : ByteArray := ⟨(Lib.decDigits u).toArray⟩
theorem one_digit : ∀ d : Fin 10, (⟨#[48, 49, 50, 51, 52, 53, 54, 55, 56, 57]⟩ : ByteArray).extract d.val (d.val + 1) = ⟨#[UInt8.ofNat (48 + d.val)]⟩ := by
  intro d
  apply ByteArray.ext
  apply Array.ext'
  revert d
  decide +kernel
theorem digs_small (u : Nat) (h : u < 10) : digs u = ⟨#[UInt8.ofNat (48 + u)]⟩ := by
  unfold digs
  rw [Lib.decDigits, dif_pos h]
theorem digs_step (u : Nat) (h : ¬ u < 10) : digs u = digs (u / 10) ++ ⟨#[UInt8.ofNat (48 + u % 10)]⟩ := by
  apply ByteArray.ext
  rw [ByteArray.data_append]
  unfold digs
  simp only []
  rw [Lib.decDigits, dif_neg h]
  simp
theorem digs_len (u : Nat) : (digs u).size = (Lib.decDigits u).length := by
  unfold digs
  show (Lib.decDigits u).toArray.size = _
  simp
theorem dec_len : ∀ (m u : Nat), u < 10 ^ (m + 1) → (Lib.decDigits u).length ≤ m + 1
  | 0, u, h => by
    rw [Lib.decDigits, dif_pos (by omega)]
    simp
  | m + 1, u, h => by
    by_cases h1 : u < 10
    · rw [Lib.decDigits, dif_pos h1]; simp
    · rw [Lib.decDigits, dif_neg h1, List.length_append, List.length_singleton]
      have := dec_len m (u / 10) (by rw [Nat.pow_succ] at h; omega)
      omega
theorem num_f : ∀ (m u k : Nat), u < 10 ^ (m + 1) → m ≤ 15 → m + 1 < k → spec_l1Num.f k (u : Int) = some (digs u) := by
  intro m
  induction m with
  | zero =>
    intro u k h hm hk
    obtain ⟨k, rfl⟩ : ∃ q, k = q + 1 := ⟨k - 1, by omega⟩
    have hu : u < 10 := by omega
    have e : wrap64 ((u : Int) + 1) = ((u + 1 : Nat) : Int) := by have h_ := wrap_id ((u : Int) + 1) (by omega) (by omega); omega
    rw [spec_l1Num.f, if_neg (by omega), if_pos (by omega), if_pos (by omega), e, if_pos (by omega), if_pos (by omega), Int.toNat_natCast, Int.toNat_natCast, digs_small u hu]
    exact congrArg some (one_digit ⟨u, hu⟩)
  | succ m ih =>
    intro u k h hm hk
    obtain ⟨k, rfl⟩ : ∃ q, k = q + 1 := ⟨k - 1, by omega⟩
    by_cases hu : u < 10
    · have e : wrap64 ((u : Int) + 1) = ((u + 1 : Nat) : Int) := by have h_ := wrap_id ((u : Int) + 1) (by omega) (by omega); omega
      rw [spec_l1Num.f, if_neg (by omega), if_pos (by omega), if_pos (by omega), e, if_pos (by omega), if_pos (by omega), Int.toNat_natCast, Int.toNat_natCast, digs_small u hu]
      exact congrArg some (one_digit ⟨u, hu⟩)
    · have hdiv : u / 10 < 10 ^ (m + 1) := by rw [Nat.pow_succ] at h; omega
      have hbig : u < 10 ^ 17 := Nat.lt_of_lt_of_le h (Nat.pow_le_pow_right (by omega) (by omega))
      have e1 : wrap64 (Int.tdiv (u : Int) 10) = ((u / 10 : Nat) : Int) := by
        have h_ := wrap_id ((u / 10 : Nat) : Int) (by omega) (by omega)
        rw [← h_]
        rfl
      have e2 : Int.tmod (u : Int) 10 = ((u % 10 : Nat) : Int) := rfl
      have e3 : wrap64 (((u % 10 : Nat) : Int) + 1) = ((u % 10 + 1 : Nat) : Int) := by have h_ := wrap_id (((u % 10 : Nat) : Int) + 1) (by omega) (by omega); omega
      have hl := dec_len m (u / 10) hdiv
      rw [← digs_len] at hl
      have h1 := one_digit ⟨u % 10, by omega⟩
      simp only at h1
      have hs1 : (⟨#[UInt8.ofNat (48 + u % 10)]⟩ : ByteArray).size = 1 := rfl
      rw [spec_l1Num.f, if_neg (by omega), if_neg (by omega), e1, ih (u / 10) k hdiv (by omega) (by omega), Option.bind_some, e2, if_pos (by omega), e3, if_pos (by omega), if_pos (by omega), Int.toNat_natCast, Int.toNat_natCast, h1, if_pos (by omega), digs_step u hu]
theorem itoa_f (u : Nat) (h : u ≤ 1000000000) : strconv_Itoa.f (u : Int) = some (digs u) := by
  unfold strconv_Itoa.f
  rw [if_pos (by omega), Lib.itoa_nonneg]
  rfl
end Go.Proofs.YtaabfffpknkpeaaDoor.Q
