import Derived.Test.YtckmmpknaengjaaPx2
import Derived.Test.YtckmmpknaengjaaPx1
import Derived.Test.YtckmmpknaengjaaQWord
import Derived.Test.YtckmmpknaengjaaGivU
/- Plain facts on the paths of loops. -/
namespace Go.Proofs.Ytckmmpknaengjaa.Q
open Go.RowKit Go.Proofs.Ytckmmpknaengjaa.Px Go.Proofs.Ytckmmpknaengjaa.Giv Go.Proofs.YtckmmpknaengjaaW.PrintWords Go.Proofs.YtckmmpknaengjaaW.PrintLast Go.Proofs.YtckmmpknaengjaaW.PrintMore
set_option linter.unusedVariables false
set_option linter.unusedSimpArgs false
/-- A byte, some times. -/
def repB (c : UInt8) (n : Nat) : ByteArray := ⟨(List.replicate n c).toArray⟩
theorem repB_size (c : UInt8) (n : Nat) : (repB c n).size = n := by
  unfold repB
  show (List.toArray _).size = _
  simp
theorem repB_succ (c : UInt8) (n : Nat) : (⟨#[c]⟩ : ByteArray) ++ repB c n = repB c (n + 1) := by
  apply ByteArray.ext
  apply Array.ext'
  rw [ByteArray.data_append, Array.toList_append]
  unfold repB
  simp [List.replicate_succ]
theorem one_size (c : UInt8) : (⟨#[c]⟩ : ByteArray).size = 1 := rfl
theorem three_size (a b c : UInt8) : (⟨#[a, b, c]⟩ : ByteArray).size = 3 := rfl
theorem repeat_list (c : UInt8) : ∀ n, Lib.repeatL [c] n = List.replicate n c
  | 0 => rfl
  | n + 1 => by
    rw [List.replicate_succ]
    show [c] ++ Lib.repeatL [c] n = _
    rw [repeat_list c n]
    rfl
theorem repeat_f (c : UInt8) (n : Nat) (hn : n ≤ 1000) : strings_Repeat.f ⟨#[c]⟩ (n : Int) = some (repB c n) := by
  unfold strings_Repeat.f
  rw [if_pos ⟨by omega, by omega, by rw [one_size, Int.toNat_natCast]; omega⟩, Int.toNat_natCast]
  show some (⟨(Lib.repeatL [c] n).toArray⟩ : ByteArray) = _
  rw [repeat_list]
  rfl
theorem times_l0 (c : UInt8) : ∀ (d k : Nat) (out : ByteArray), d < k → out.size + d ≤ 1000000 → spec_l10Times.l0 k ⟨#[c]⟩ (d : Int) out = some (out ++ repB c d)
  | 0, k, out, hk, ho => by
    obtain ⟨k, rfl⟩ : ∃ m, k = m + 1 := ⟨k - 1, by omega⟩
    rw [spec_l10Times.l0, if_neg (by omega)]
    congr 1
    apply ByteArray.ext
    rw [ByteArray.data_append]
    simp [repB]
  | d + 1, k, out, hk, ho => by
    obtain ⟨k, rfl⟩ : ∃ m, k = m + 1 := ⟨k - 1, by omega⟩
    have w : wrap64 (((d + 1 : Nat) : Int) - 1) = (d : Int) := by have h_ := wrap_id (((d + 1 : Nat) : Int) - 1) (by omega) (by omega); omega
    have ih := times_l0 c d k (out ++ ⟨#[c]⟩) (by omega) (by rw [ByteArray.size_append, one_size]; omega)
    rw [spec_l10Times.l0, if_pos (by omega), if_pos (by rw [one_size]; omega), w, ih, ByteArray.append_assoc, repB_succ]
theorem times_f (c : UInt8) (n : Nat) (hn : n ≤ 1000) (k : Nat) (hk : n < k) : spec_l10Times.f k ⟨#[c]⟩ (n : Int) = some (repB c n) := by
  unfold spec_l10Times.f
  rw [times_l0 c n k _ hk (by show 0 + n ≤ _; omega)]
  congr 1
/-- A letter's loop. -/
def piece (x : Int) : ByteArray := if x > 0 then (repB 114 x.toNat ++ ⟨#[117, 114, 100]⟩) ++ repB 108 (x.toNat + 1) else (repB 114 ((-x).toNat + 1) ++ ⟨#[117, 108, 100]⟩) ++ repB 108 (-x).toNat
theorem piece_size {x : Int} (h : letterB x = true) : (piece x).size ≤ 20 := by
  have hr := letter_range h
  unfold piece
  split
  · rw [ByteArray.size_append, ByteArray.size_append, repB_size, repB_size, three_size]; omega
  · rw [ByteArray.size_append, ByteArray.size_append, repB_size, repB_size, three_size]; omega
def loopF (w : List Int) : Nat → Nat → ByteArray → ByteArray
  | 0, _, out => out
  | d + 1, i, out => loopF w d (i + 1) (out ++ piece (rd w (i : Int)))
def fitP (out : ByteArray) : ByteArray × Bool := if (out.size : Int) > 400 then ((⟨#[]⟩ : ByteArray), false) else (out, true)
theorem nail_spec {x : Int} (h : letterB x = true) : spec_l2Nail.f x = some ((x.natAbs : Nat) : Int) := by
  have hr := letter_range h
  unfold spec_l2Nail.f spec_l1Most.f
  have w : wrap64 (-x) = -x := wrap_id _ (by omega) (by omega)
  rw [w]
  by_cases h1 : x > -x
  · rw [if_pos h1]; simp only [Option.bind_some]; congr 1; omega
  · rw [if_neg h1]; simp only [Option.bind_some]; congr 1; omega
theorem wrap_succ' (n : Nat) (h : n ≤ 6) : wrap64 ((n : Int) + 1) = ((n + 1 : Nat) : Int) := by have h_ := wrap_id ((n : Int) + 1) (by omega) (by omega); omega
theorem spec_loop_l0 (w : List Int) (hw : ∀ x ∈ w, letterB x = true) (hl : w.length ≤ 64) : ∀ (d i k : Nat) (out : ByteArray), w.length - i = d → i ≤ w.length → d + 50 < k → out.size ≤ 20 * i → spec_LoopPath.l0 k w out (i : Int) = some (fitP (loopF w d i out)) := by
  intro d
  induction d with
  | zero =>
    intro i k out hd hi hk ho
    obtain ⟨k, rfl⟩ : ∃ m, k = m + 1 := ⟨k - 1, by omega⟩
    rw [spec_LoopPath.l0, if_neg (by omega)]
    unfold fitP loopF
    split <;> rfl
  | succ d ih =>
    intro i k out hd hi hk ho
    obtain ⟨k, rfl⟩ : ∃ m, k = m + 1 := ⟨k - 1, by omega⟩
    have hx := hw _ (rd_mem w i (by omega))
    have hr := letter_range hx
    have hp := piece_size hx
    have ih := ih (i + 1) k (out ++ piece (rd w (i : Int))) (by omega) (by omega) (by omega) (by rw [ByteArray.size_append]; omega)
    have w1 : wrap64 ((i : Int) + 1) = ((i + 1 : Nat) : Int) := by have h_ := wrap_id ((i : Int) + 1) (by omega) (by omega); omega
    have t1 : (i : Int) < (w.length : Int) := by omega
    have t2 : (0 : Int) ≤ (i : Int) := by omega
    obtain ⟨x, hxi⟩ : ∃ x, x = rd w (i : Int) := ⟨_, rfl⟩
    rw [spec_LoopPath.l0, if_pos t1, if_pos t2, w1]
    simp only [loopF]
    rw [← hxi] at hx hr hp ih ⊢
    clear hxi w1
    have t3 : x.natAbs ≤ 6 := by omega
    have t4 : x.natAbs ≤ 1000 := by omega
    have t5 : x.natAbs + 1 ≤ 1000 := by omega
    have t6 : x.natAbs < k := by omega
    have t7 : x.natAbs + 1 < k := by omega
    have z1 : out.size + (repB 114 x.natAbs).size ≤ 9223372036854775807 := by rw [repB_size]; omega
    have z2 : out.size + (repB 114 x.natAbs).size + 3 ≤ 9223372036854775807 := by rw [repB_size]; omega
    have z3 : out.size + (repB 114 x.natAbs).size + 3 + (repB 108 (x.natAbs + 1)).size ≤ 9223372036854775807 := by rw [repB_size, repB_size]; omega
    have z4 : out.size + (repB 114 (x.natAbs + 1)).size ≤ 9223372036854775807 := by rw [repB_size]; omega
    have z5 : out.size + (repB 114 (x.natAbs + 1)).size + 3 ≤ 9223372036854775807 := by rw [repB_size]; omega
    have z6 : out.size + (repB 114 (x.natAbs + 1)).size + 3 + (repB 108 x.natAbs).size ≤ 9223372036854775807 := by rw [repB_size, repB_size]; omega
    rw [nail_spec hx, Option.bind_some]
    by_cases h : x > 0
    · have e : x.toNat = x.natAbs := by omega
      have hpc : piece x = (repB 114 x.natAbs ++ ⟨#[117, 114, 100]⟩) ++ repB 108 (x.natAbs + 1) := by unfold piece; rw [if_pos h, e]
      rw [hpc] at ih
      rw [if_pos h, times_f 114 x.natAbs t4 k t6, Option.bind_some, if_pos z1, if_pos z2, wrap_succ' x.natAbs t3, times_f 108 (x.natAbs + 1) t5 k t7, Option.bind_some, if_pos z3, ByteArray.append_assoc, ByteArray.append_assoc, ← ByteArray.append_assoc (a := repB 114 x.natAbs), ih]
      rw [hpc]
    · have e : (-x).toNat = x.natAbs := by omega
      have hpc : piece x = (repB 114 (x.natAbs + 1) ++ ⟨#[117, 108, 100]⟩) ++ repB 108 x.natAbs := by unfold piece; rw [if_neg h, e]
      rw [hpc] at ih
      rw [if_neg h, wrap_succ' x.natAbs t3, times_f 114 (x.natAbs + 1) t5 k t7, Option.bind_some, if_pos z4, if_pos z5, times_f 108 x.natAbs t4 k t6, Option.bind_some, if_pos z6, ByteArray.append_assoc, ByteArray.append_assoc, ← ByteArray.append_assoc (a := repB 114 (x.natAbs + 1)), ih]
      rw [hpc]
theorem impl_loop_l0 (w : List Int) (hw : ∀ x ∈ w, letterB x = true) (hl : w.length ≤ 64) : ∀ (d i k : Nat) (out : ByteArray), w.length - i = d → i ≤ w.length → d < k → out.size ≤ 20 * i → impl_LoopPath.l0 k out w (w.length : Int) (i : Int) = some (fitP (loopF w d i out)) := by
  intro d
  induction d with
  | zero =>
    intro i k out hd hi hk ho
    obtain ⟨k, rfl⟩ : ∃ m, k = m + 1 := ⟨k - 1, by omega⟩
    rw [impl_LoopPath.l0, if_neg (by omega)]
    unfold fitP loopF
    split <;> rfl
  | succ d ih =>
    intro i k out hd hi hk ho
    obtain ⟨k, rfl⟩ : ∃ m, k = m + 1 := ⟨k - 1, by omega⟩
    have hx := hw _ (rd_mem w i (by omega))
    have hr := letter_range hx
    have hp := piece_size hx
    have ih := ih (i + 1) k (out ++ piece (rd w (i : Int))) (by omega) (by omega) (by omega) (by rw [ByteArray.size_append]; omega)
    have w1 : wrap64 ((i : Int) + 1) = ((i + 1 : Nat) : Int) := by have h_ := wrap_id ((i : Int) + 1) (by omega) (by omega); omega
    have t1 : (i : Int) < (w.length : Int) := by omega
    have t2 : (0 : Int) ≤ (i : Int) := by omega
    obtain ⟨x, hxi⟩ : ∃ x, x = rd w (i : Int) := ⟨_, rfl⟩
    rw [impl_LoopPath.l0, if_pos t1, if_pos t2, if_pos t1, w1]
    simp only [loopF]
    rw [← hxi] at hx hr hp ih ⊢
    clear hxi w1
    have t3 : x.natAbs ≤ 6 := by omega
    have t4 : x.natAbs ≤ 1000 := by omega
    have t5 : x.natAbs + 1 ≤ 1000 := by omega
    have z2 : (repB 114 x.natAbs).size + 3 ≤ 9223372036854775807 := by rw [repB_size]; omega
    have z3 : (repB 114 x.natAbs).size + 3 + (repB 108 (x.natAbs + 1)).size ≤ 9223372036854775807 := by rw [repB_size, repB_size]; omega
    have z4 : out.size + (repB 114 x.natAbs).size + 3 + (repB 108 (x.natAbs + 1)).size ≤ 9223372036854775807 := by rw [repB_size, repB_size]; omega
    have z5 : (repB 114 (x.natAbs + 1)).size + 3 ≤ 9223372036854775807 := by rw [repB_size]; omega
    have z6 : (repB 114 (x.natAbs + 1)).size + 3 + (repB 108 x.natAbs).size ≤ 9223372036854775807 := by rw [repB_size, repB_size]; omega
    have z7 : out.size + (repB 114 (x.natAbs + 1)).size + 3 + (repB 108 x.natAbs).size ≤ 9223372036854775807 := by rw [repB_size, repB_size]; omega
    by_cases h : x > 0
    · have e : x.toNat = x.natAbs := by omega
      have e2 : x = ((x.natAbs : Nat) : Int) := by omega
      have hpc : piece x = (repB 114 x.natAbs ++ ⟨#[117, 114, 100]⟩) ++ repB 108 (x.natAbs + 1) := by unfold piece; rw [if_pos h, e]
      have w2 : wrap64 (x + 1) = ((x.natAbs + 1 : Nat) : Int) := by have h_ := wrap_id (x + 1) (by omega) (by omega); omega
      have r1 : strings_Repeat.f ⟨#[114]⟩ x = some (repB 114 x.natAbs) := by
        have h_ := repeat_f 114 x.natAbs t4
        rw [← e2] at h_
        exact h_
      rw [if_pos h, r1, Option.bind_some, if_pos z2, w2, repeat_f 108 (x.natAbs + 1) t5, Option.bind_some, if_pos z3, if_pos z4, ← hpc]
      exact ih
    · have e : (-x).toNat = x.natAbs := by omega
      have hpc : piece x = (repB 114 (x.natAbs + 1) ++ ⟨#[117, 108, 100]⟩) ++ repB 108 x.natAbs := by unfold piece; rw [if_neg h, e]
      have w2 : wrap64 (1 - x) = ((x.natAbs + 1 : Nat) : Int) := by have h_ := wrap_id (1 - x) (by omega) (by omega); omega
      have w3 : wrap64 (-x) = ((x.natAbs : Nat) : Int) := by clear w2; have h_ := wrap_id (-x) (by omega) (by omega); omega
      rw [if_neg h, w2, repeat_f 114 (x.natAbs + 1) t5, Option.bind_some, if_pos z5, w3, repeat_f 108 x.natAbs t4, Option.bind_some, if_pos z6, if_pos z7, ← hpc]
      exact ih
theorem LoopPath_agree (w : List Int) (hl : w.length ≤ 1048576) : ∃ K r1 r2, ∀ k, K ≤ k → spec_LoopPath.f k w = some (r1, r2) ∧ impl_LoopPath.f k w = some (r1, r2) := by
  cases hb : wordB w with
  | false =>
    refine ⟨2 * w.length + 10, ⟨#[]⟩, false, fun k hk => ?_⟩
    unfold spec_LoopPath.f impl_LoopPath.f
    rw [l2Word_f w (by omega) k (by omega), isWord_f, hb, Option.bind_some, Option.bind_some]
    exact ⟨rfl, rfl⟩
  | true =>
    have hw := word_true w hb
    refine ⟨2 * w.length + 100, (fitP (loopF w w.length 0 ⟨#[]⟩)).1, (fitP (loopF w w.length 0 ⟨#[]⟩)).2, fun k hk => ?_⟩
    have h1 := spec_loop_l0 w hw.2 hw.1 w.length 0 k ⟨#[]⟩ (by omega) (by omega) (by omega) (Nat.le_refl _)
    have h2 := impl_loop_l0 w hw.2 hw.1 w.length 0 k ⟨#[]⟩ (by omega) (by omega) (by omega) (Nat.le_refl _)
    unfold spec_LoopPath.f impl_LoopPath.f
    rw [l2Word_f w (by omega) k (by omega), isWord_f, hb, Option.bind_some, Option.bind_some, if_pos rfl, if_pos rfl]
    exact ⟨h1, h2⟩
end Go.Proofs.Ytckmmpknaengjaa.Q
