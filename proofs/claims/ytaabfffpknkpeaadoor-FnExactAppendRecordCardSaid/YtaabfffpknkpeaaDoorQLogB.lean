import Derived.Test.YtaabfffpknkpeaaDoorPx7
import Derived.Test.YtaabfffpknkpeaaDoorPx5
import Derived.Test.YtaabfffpknkpeaaDoorPx4
import Derived.Test.YtaabfffpknkpeaaDoorPx2
import Derived.Test.YtaabfffpknkpeaaDoorPx10
import Derived.Test.YtaabfffpknkpeaaDoorQLog
/- Plain facts on records that are read back, one at a time: reference and program find the same. -/
namespace Go.Proofs.YtaabfffpknkpeaaDoor.Q
open Go.RowKit Go.Proofs.YtaabfffpknkpeaaDoor.Px Go.Proofs.YtaabfffpknkpeaaDoor.Giv Go.Proofs.YtaabfffpknkpeaaDoorW.PrintWords Go.Proofs.YtaabfffpknkpeaaDoorW.PrintLast Go.Proofs.YtaabfffpknkpeaaDoorW.PrintMore
set_option linter.unusedVariables false
set_option linter.unusedSimpArgs false
theorem plain_bytes (s : ByteArray) : ∀ (d i : Nat), i + d = s.size → plainFrom s d i = true → ∀ b ∈ (BL s).drop i, 32 ≤ b.toNat ∧ b.toNat ≤ 126 ∧ b.toNat ≠ 35 := by
  intro d
  induction d with
  | zero =>
    intro i hi _ b hb
    rw [List.drop_of_length_le (by rw [BL_len]; omega)] at hb
    cases hb
  | succ d ih =>
    intro i hi hp b hb
    obtain ⟨x, hx, hv⟩ := bt_data s i (by omega)
    have hl : (BL s).length = s.size := BL_len s
    have hdr : (BL s).drop i = x :: (BL s).drop (i + 1) := by
      rw [List.drop_eq_getElem_cons (by omega)]
      congr 1
      have hx' : (BL s)[i]? = some x := hx
      rw [List.getElem?_eq_getElem (by omega)] at hx'
      exact Option.some.inj hx'
    simp only [plainFrom] at hp
    cases hc : plainC (bt s (i : Int)) with
    | false => rw [hc] at hp; simp at hp
    | true =>
      rw [hc, if_pos rfl] at hp
      rw [hdr] at hb
      rcases List.mem_cons.1 hb with rfl | hb
      · unfold plainC at hc
        rw [hv] at hc
        simp only [Bool.and_eq_true, decide_eq_true_eq, Bool.not_eq_true', decide_eq_false_iff_not] at hc
        omega
      · exact ih (i + 1) (by omega) hp b hb
theorem plainS_bytes {s : ByteArray} (h : plainS s = true) : ∀ b ∈ BL s, 32 ≤ b.toNat ∧ b.toNat ≤ 126 ∧ b.toNat ≠ 35 := by
  have h1 := plain_bytes s s.size 0 (by omega) h
  rw [List.drop_zero] at h1
  exact h1
theorem recB_parts {c r : ByteArray} (h : recB c r = true) : 1 ≤ c.size ∧ c.size ≤ 160 ∧ plainS c = true ∧ hasB c 64 = false ∧ r.size ≤ 250 ∧ plainS r = true := by
  unfold recB at h
  simp only [Bool.and_eq_true, decide_eq_true_eq, Bool.not_eq_true'] at h
  obtain ⟨⟨⟨⟨h1, h2⟩, h3⟩, h4⟩, h5, h6⟩ := h
  exact ⟨h1, h2, h3, h4, h5, h6⟩
theorem digs_bytes (n : Nat) : ∀ b ∈ BL (digs n), 48 ≤ b.toNat ∧ b.toNat ≤ 57 := by
  intro b hb
  exact dec_range n b hb
theorem lit_bytes (x : UInt8) : BL ⟨#[x]⟩ = [x] := rfl
/-- What stands behind a record's number. -/
def crT (c r : ByteArray) : ByteArray := (c ++ ⟨#[64]⟩) ++ r
theorem recT_BL (n : Nat) (c r : ByteArray) : BL (recT n c r) = BL (digs n) ++ 32 :: BL (crT c r) := by
  unfold recT crT
  simp only [BL_append, lit_bytes, List.append_assoc, List.cons_append, List.nil_append]
theorem crT_BL (c r : ByteArray) : BL (crT c r) = BL c ++ 64 :: BL r := by
  unfold crT
  simp only [BL_append, lit_bytes, List.append_assoc, List.cons_append, List.nil_append]
theorem sealT_BL (s : ByteArray) : BL (sealT s) = BL s ++ 35 :: BL (digs (sumN s)) := by
  unfold sealT
  simp only [BL_append, lit_bytes, List.append_assoc, List.cons_append, List.nil_append]
/-- A record's encoding. -/
def encT (n : Nat) (c r : ByteArray) : ByteArray := sealT (recT n c r) ++ ⟨#[10]⟩
theorem encT_BL (n : Nat) (c r : ByteArray) : BL (encT n c r) = BL (sealT (recT n c r)) ++ [10] := by
  unfold encT
  rw [BL_append, lit_bytes]
theorem recT_bytes {n : Nat} {c r : ByteArray} (h : recB c r = true) : ∀ b ∈ BL (recT n c r), 32 ≤ b.toNat ∧ b.toNat ≤ 126 ∧ b.toNat ≠ 35 := by
  obtain ⟨_, _, h3, _, _, h6⟩ := recB_parts h
  intro b hb
  rw [recT_BL, crT_BL] at hb
  rcases List.mem_append.1 hb with hb | hb
  · have := digs_bytes n b hb; omega
  · rcases List.mem_cons.1 hb with rfl | hb
    · decide
    · rcases List.mem_append.1 hb with hb | hb
      · exact plainS_bytes h3 b hb
      · rcases List.mem_cons.1 hb with rfl | hb
        · decide
        · exact plainS_bytes h6 b hb
theorem sealT_no10 {n : Nat} {c r : ByteArray} (h : recB c r = true) : (10 : UInt8) ∉ BL (sealT (recT n c r)) := by
  intro hb
  rw [sealT_BL] at hb
  rcases List.mem_append.1 hb with hb | hb
  · have := recT_bytes h _ hb; exact absurd this.1 (by decide)
  · rcases List.mem_cons.1 hb with hb | hb
    · exact absurd hb (by decide)
    · have := digs_bytes _ _ hb; exact absurd this.1 (by decide)
theorem recT_no35 {n : Nat} {c r : ByteArray} (h : recB c r = true) : (35 : UInt8) ∉ BL (recT n c r) := by
  intro hb
  exact (recT_bytes h _ hb).2.2 rfl
theorem digs_no32 (n : Nat) : (32 : UInt8) ∉ BL (digs n) := by
  intro hb
  exact absurd (digs_bytes n _ hb).1 (by decide)
theorem recT_size (n : Nat) (c r : ByteArray) : (recT n c r).size = (digs n).size + 1 + c.size + 1 + r.size := by unfold recT; simp only [ByteArray.size_append, size_lit]
theorem digs_small_len {n : Nat} (h : n < 100) : (digs n).size ≤ 2 := by rw [digs_len]; exact dec_len 1 n (by omega)
theorem sealT_size (s : ByteArray) : (sealT s).size ≤ s.size + 7 ∧ s.size ≤ (sealT s).size := by
  have h1 := sum_len s
  unfold sealT
  rw [ByteArray.size_append, ByteArray.size_append, size_lit]
  omega
theorem encT_size {n : Nat} {c r : ByteArray} (hn : n < 60) (h : recB c r = true) : 1 ≤ (encT n c r).size ∧ (encT n c r).size ≤ 500 := by
  obtain ⟨_, h2, _, _, h5, _⟩ := recB_parts h
  have h1 := sealT_size (recT n c r)
  rw [recT_size] at h1
  have h3 := digs_small_len (n := n) (by omega)
  unfold encT
  rw [ByteArray.size_append, size_lit]
  omega
theorem encT_seal (n : Nat) (c r : ByteArray) : (encT n c r).size = (sealT (recT n c r)).size + 1 := by unfold encT; rw [ByteArray.size_append, size_lit]
/-- A text begins with the encoding of a valid record. -/
def starts (s : ByteArray) (n : Nat) (c r : ByteArray) : Prop := n < 60 ∧ recB c r = true ∧ BL (encT n c r) <+: BL s
theorem line_of_enc {s : ByteArray} {n : Nat} {c r : ByteArray} (h : starts s n c r) : headB s 10 = sealT (recT n c r) ∧ hasB s 10 = true := by
  obtain ⟨h1, h2, t, ht⟩ := h
  rw [encT_BL, List.append_assoc] at ht
  obtain ⟨e1, _, e3⟩ := headB_at (s := s) (a := sealT (recT n c r)) (b := mkB t) (c := 10) (by rw [BL_mk, ← ht]; rfl) (sealT_no10 h2)
  exact ⟨e1, e3⟩
theorem body_of_seal {n : Nat} {c r : ByteArray} (h : recB c r = true) : headB (sealT (recT n c r)) 35 = recT n c r :=
  (headB_at (sealT_BL _) (recT_no35 h)).1
theorem rest_of_rec (n : Nat) (c r : ByteArray) : tailB (recT n c r) 32 = crT c r := (headB_at (recT_BL n c r) (digs_no32 n)).2.1
theorem parts_of_cr {c r : ByteArray} (h : recB c r = true) : headB (crT c r) 64 = c ∧ tailB (crT c r) 64 = r ∧ hasB (crT c r) 64 = true :=
  headB_at (crT_BL c r) ((hasB_not c 64).1 (recB_parts h).2.2.2.1)
theorem starts_one {s : ByteArray} {n : Nat} {c r c' r' : ByteArray} (h : starts s n c r) (h' : starts s n c' r') : c = c' ∧ r = r' := by
  have e1 := (line_of_enc h).1.symm.trans (line_of_enc h').1
  have e2 := body_of_seal (n := n) h.2.1
  rw [e1, body_of_seal h'.2.1] at e2
  have e3 := rest_of_rec n c r
  rw [← e2, rest_of_rec] at e3
  have e4 := parts_of_cr h.2.1
  rw [← e3] at e4
  have e5 := parts_of_cr h'.2.1
  exact ⟨e4.1.symm.trans e5.1, e4.2.1.symm.trans e5.2.1⟩
/-! ### the program -/
theorem append_total (s : ByteArray) (hs : s.size ≤ 100000) (k : Nat) (hk : s.size + 10 < k) : ∃ r b, impl_AppendChecksum.f k s = some (r, b) := by
  obtain ⟨k, rfl⟩ : ∃ m, k = m + 1 := ⟨k - 1, by omega⟩
  unfold impl_AppendChecksum.f
  have h1 := sum_len s
  have h2 := (sumN_is s).2
  by_cases h4 : (s.size : Int) > 4000
  · rw [if_pos h4, impl_AppendChecksum.j0, if_pos rfl]; exact ⟨_, _, rfl⟩
  · rw [if_neg h4, contains_f, Option.bind_some]
    cases hasB s 35 with
    | true => rw [impl_AppendChecksum.j0, if_pos rfl]; exact ⟨_, _, rfl⟩
    | false =>
      rw [impl_AppendChecksum.j0, if_neg (by simp), if_pos (by omega), checksum_f s (by omega) k (by omega), Option.bind_some, itoa_f (sumN s) (by omega), Option.bind_some, if_pos (by omega)]
      by_cases h5 : ((s.size : Int) + 1 + ((digs (sumN s)).size : Int)) > 4000
      · rw [if_pos h5]; exact ⟨_, _, rfl⟩
      · rw [if_neg h5]; exact ⟨_, _, rfl⟩
theorem verify_total (s : ByteArray) (hs : s.size ≤ 100000) (k : Nat) (hk : s.size + 10 < k) : ∃ r b, impl_VerifyChecksum.f k s = some (r, b) ∧ r.size ≤ s.size := by
  unfold impl_VerifyChecksum.f
  have hz := (headB_size s 35).1
  obtain ⟨r, b, h⟩ := append_total (headB s 35) (by omega) k (by omega)
  rw [cut_f s 35 (by omega), Option.bind_some, h, Option.bind_some]
  cases b with
  | false => exact ⟨_, _, rfl, Nat.zero_le _⟩
  | true =>
    simp only [if_true]
    by_cases h1 : r.toList = s.toList
    · rw [if_pos h1]; exact ⟨_, _, rfl, hz⟩
    · rw [if_neg h1]; exact ⟨_, _, rfl, Nat.zero_le _⟩
theorem verify_seal {n : Nat} {c r : ByteArray} (hn : n < 60) (h : recB c r = true) (k : Nat) (hk : 1000 < k) : impl_VerifyChecksum.f k (sealT (recT n c r)) = some (recT n c r, true) := by
  obtain ⟨_, h2, _, _, h5, _⟩ := recB_parts h
  have h3 := digs_small_len (n := n) (by omega)
  have h1 := sealT_size (recT n c r)
  have h4 := recT_size n c r
  unfold impl_VerifyChecksum.f
  rw [cut_f _ 35 (by omega), Option.bind_some, body_of_seal h, AppendChecksum_f (recT n c r) (by omega) ((hasB_not _ 35).2 (recT_no35 h)) k (by omega), Option.bind_some]
  simp only [if_true]
theorem line_f {n : Nat} {c r : ByteArray} (hn : n < 100) (h : recB c r = true) (k : Nat) (hk : 1000 < k) : spec_l12Line.f k (n : Int) c r = some (encT n c r) := by
  obtain ⟨_, h2, _, _, h5, _⟩ := recB_parts h
  have h3 := digs_small_len (n := n) (by omega)
  have h1 := sealT_size (recT n c r)
  have h4 := recT_size n c r
  unfold spec_l12Line.f
  rw [num_f 1 n k (by omega) (by omega) (by omega), Option.bind_some, if_pos (by omega), if_pos (by omega), if_pos (by omega), if_pos (by omega)]
  have s1 := l1Seal_f (recT n c r) (by omega) k (by omega)
  have h9 : (sealT (recT n c r)).size ≤ 1000 := by omega
  unfold recT at s1 h9
  rw [s1, Option.bind_some, if_pos (by omega)]
  rfl
theorem encode_f {n : Nat} {c r : ByteArray} (hn : n < 60) (h : recB c r = true) (k : Nat) (hk : 1000 < k) : impl_EncodeRecord.f k (n : Int) c r = some (encT n c r, true) := by
  obtain ⟨k, rfl⟩ : ∃ m, k = m + 1 := ⟨k - 1, by omega⟩
  obtain ⟨_, h2, _, _, h5, _⟩ := recB_parts h
  have h3 := digs_small_len (n := n) (by omega)
  have h1 := sealT_size (recT n c r)
  have h4 := recT_size n c r
  unfold impl_EncodeRecord.f
  rw [if_neg (by omega), if_neg (by omega), impl_valid_f c r (by omega) (by omega) _ (by omega), h, Option.bind_some, impl_EncodeRecord.j0, if_neg (by simp), itoa_f n (by omega), Option.bind_some, if_pos (by omega), if_pos (by omega), if_pos (by omega), if_pos (by omega)]
  have s2 := AppendChecksum_f (recT n c r) (by omega) ((hasB_not _ 35).2 (recT_no35 h)) k (by omega)
  have h9 : (sealT (recT n c r)).size ≤ 1000 := by omega
  unfold recT at s2 h9
  rw [s2, Option.bind_some]
  simp only [if_true]
  rw [if_pos (by omega)]
  rfl
theorem encode_no {n : Nat} {c r : ByteArray} (hc : c.size ≤ 100000) (hr : r.size ≤ 100000) (h : ¬ (n < 60 ∧ recB c r = true)) (k : Nat) (hk : c.size + r.size + 10 < k) : impl_EncodeRecord.f k (n : Int) c r = some (⟨#[]⟩, false) := by
  obtain ⟨k, rfl⟩ : ∃ m, k = m + 1 := ⟨k - 1, by omega⟩
  unfold impl_EncodeRecord.f
  rw [if_neg (by omega)]
  by_cases hn : n < 60
  · have h2 : recB c r = false := by
      cases hb : recB c r with
      | false => rfl
      | true => exact absurd ⟨hn, hb⟩ h
    rw [if_neg (by omega), impl_valid_f c r (by omega) (by omega) _ (by omega), h2, Option.bind_some, impl_EncodeRecord.j0, if_pos (by simp)]
  · rw [if_pos (by omega), impl_EncodeRecord.j0, if_pos rfl]
theorem next_sound (s : ByteArray) (n : Nat) (hs : s.size ≤ 100000) (k : Nat) (hk : 250000 < k) : ∃ c r code ok, impl_nextRecord.f k s (n : Int) = some (c, r, code, ok) ∧ (ok = true → starts s n c r ∧ code = encT n c r) := by
  obtain ⟨k, rfl⟩ : ∃ m, k = m + 1 := ⟨k - 1, by omega⟩
  have hz := (headB_size s 10).1
  obtain ⟨t, b, h1, hz1⟩ := verify_total (headB s 10) (by omega) (k + 1) (by omega)
  unfold impl_nextRecord.f
  rw [cut_f s 10 (by omega), Option.bind_some, h1, Option.bind_some]
  have stop : ∃ c r code ok, impl_nextRecord.j0 (k + 1) s (n : Int) t true = some (c, r, code, ok) ∧ (ok = true → starts s n c r ∧ code = encT n c r) := by
    rw [impl_nextRecord.j0, if_pos rfl]
    exact ⟨_, _, _, _, rfl, fun h => by cases h⟩
  cases hasB s 10 with
  | false => exact stop
  | true =>
    cases b with
    | false => exact stop
    | true =>
      have hz2 := (headB_size t 32).2
      have hz3 := headB_size (tailB t 32) 64
      simp only [if_true]
      rw [impl_nextRecord.j0, if_neg (by simp), cut_f t 32 (by omega), Option.bind_some, cut_f (tailB t 32) 64 (by omega), Option.bind_some]
      by_cases hv : n < 60 ∧ recB (headB (tailB t 32) 64) (tailB (tailB t 32) 64) = true
      · have hf := encode_f hv.1 hv.2 k (by omega)
        simp only [hf, Option.bind_some, if_true]
        refine ⟨_, _, _, _, rfl, fun h => ⟨⟨hv.1, hv.2, ?_⟩, rfl⟩⟩
        exact List.isPrefixOf_iff_prefix.1 h
      · have hf := encode_no (n := n) (c := headB (tailB t 32) 64) (r := tailB (tailB t 32) 64) (by omega) (by omega) hv k (by omega)
        simp only [hf, Option.bind_some]
        exact ⟨_, _, _, _, rfl, fun h => by cases h⟩
theorem next_comp {s : ByteArray} {n : Nat} {c r : ByteArray} (h : starts s n c r) (hs : s.size ≤ 100000) (k : Nat) (hk : 250000 < k) : impl_nextRecord.f k s (n : Int) = some (c, r, encT n c r, true) := by
  obtain ⟨k, rfl⟩ : ∃ m, k = m + 1 := ⟨k - 1, by omega⟩
  obtain ⟨_, h2, _, _, h5, _⟩ := recB_parts h.2.1
  have hn := h.1
  have h3 := digs_small_len (n := n) (by omega)
  have h4 := recT_size n c r
  have h6 : (crT c r).size = c.size + 1 + r.size := by unfold crT; simp only [ByteArray.size_append, size_lit]
  obtain ⟨l1, l2⟩ := line_of_enc h
  obtain ⟨p1, p2, p3⟩ := parts_of_cr h.2.1
  unfold impl_nextRecord.f
  rw [cut_f s 10 (by omega), Option.bind_some, l1, l2, verify_seal hn h.2.1 (k + 1) (by omega), Option.bind_some]
  simp only [if_true]
  rw [impl_nextRecord.j0, if_neg (by simp), cut_f (recT n c r) 32 (by omega), Option.bind_some, rest_of_rec, cut_f (crT c r) 64 (by omega), p1, p2, p3, Option.bind_some, encode_f hn h.2.1 k (by omega), Option.bind_some]
  simp only [if_true]
  have hp : strings_HasPrefix.f s (encT n c r) = some true := by
    show some (Lib.hasPrefix (BL s) (BL (encT n c r))) = some true
    congr 1
    exact List.isPrefixOf_iff_prefix.2 h.2.2
  rw [hp, Option.bind_some]
/-! ### the reference -/
theorem decode_comp {n : Nat} {c r : ByteArray} (hn : n < 60) (h : recB c r = true) (k : Nat) (hk : 250000 < k) : spec_l12Decode.f k (sealT (recT n c r)) (n : Int) = some (c, r, true) := by
  obtain ⟨k, rfl⟩ : ∃ m, k = m + 1 := ⟨k - 1, by omega⟩
  obtain ⟨_, h2, _, _, h5, _⟩ := recB_parts h
  have h3 := digs_small_len (n := n) (by omega)
  have h4 := recT_size n c r
  have h1 := sealT_size (recT n c r)
  have h6 : (crT c r).size = c.size + 1 + r.size := by unfold crT; simp only [ByteArray.size_append, size_lit]
  obtain ⟨p1, p2, p3⟩ := parts_of_cr h
  obtain ⟨q1, hq1, _⟩ := split_f (sealT (recT n c r)) 35 35 rfl (by omega) (k + 1) (by omega)
  have ha : (digs n ++ (⟨#[32]⟩ : ByteArray)).size = (digs n).size + 1 := by rw [ByteArray.size_append, size_lit]
  unfold spec_l12Decode.f
  rw [num_f 1 n (k + 1) (by omega) (by omega) (by omega), Option.bind_some, if_pos (by omega), hq1, Option.bind_some, body_of_seal h]
  have e0 : rdOf ByteArray.empty (recT n c r :: q1) 0 = recT n c r := rfl
  simp only [e0]
  have hpre : (recT n c r).extract 0 ((digs n).size + 1) = digs n ++ (⟨#[32]⟩ : ByteArray) := by
    apply BL_inj
    rw [BL_prefix, recT_BL, BL_append, lit_bytes, List.take_append, List.take_of_length_le (by rw [BL_len]; omega), BL_len, Nat.add_sub_cancel_left]
    rfl
  have hsuf : (recT n c r).extract ((digs n).size + 1) (recT n c r).size = crT c r := by
    apply BL_inj
    rw [BL_suffix, recT_BL, List.drop_append, List.drop_of_length_le (by rw [BL_len]; omega), BL_len, Nat.add_sub_cancel_left]
    rfl
  have t1 : (((digs n).size : Int) + 1).toNat = (digs n).size + 1 := by omega
  rw [if_pos (by simp only [List.length_cons]; omega), if_neg (by omega), if_pos (by omega), if_pos (by omega), t1, hpre, spec_l12Decode.j0, if_neg (by simp), ha, if_pos (by omega), if_pos (by omega), hsuf]
  obtain ⟨q2, hq2, _⟩ := split_f (crT c r) 64 64 rfl (by omega) k (by omega)
  have e1 : rdOf ByteArray.empty (c :: q2) 0 = c := rfl
  have g0 : c.size ≤ 1099511627776 := by omega
  have g1 : ¬ ((c.size : Int) = ((crT c r).size : Int)) := by omega
  have g2 : (0 : Int) ≤ ((c.size + 1 : Nat) : Int) := Int.natCast_nonneg _
  have g3 : ((c.size + 1 : Nat) : Int) ≤ ((crT c r).size : Int) := by omega
  have g4 : c.size ≤ 1048576 ∧ r.size ≤ 1048576 ∧ c.size + r.size < k ∧ 1000 < k ∧ n < 100 := by omega
  have g5 : (sealT (recT n c r)).size + 1 ≤ 9223372036854775807 := by omega
  have z1 : (recT n c r).size - ((digs n).size + 1) = (crT c r).size := by omega
  have hsuf2 : (crT c r).extract (c.size + 1) (crT c r).size = r := by
    apply BL_inj
    rw [BL_suffix, crT_BL, List.drop_append, List.drop_of_length_le (by rw [BL_len]; omega), BL_len, Nat.add_sub_cancel_left]
    rfl
  rw [hq2, Option.bind_some, p1, z1]
  simp only [e1]
  rw [if_pos (show 0 < ((c :: q2).length : Int) from Int.natCast_pos.2 (Nat.succ_pos _)), if_neg g1, wrap_succ c.size g0, if_pos g2, if_pos g3, Int.toNat_natCast (c.size + 1), hsuf2, l12Record_f c r g4.1 g4.2.1 k g4.2.2.1, h, Option.bind_some, if_pos rfl, line_f g4.2.2.2.2 h k g4.2.2.2.1, Option.bind_some, if_pos g5]
  have : (encT n c r).toList == (sealT (recT n c r) ++ (⟨#[10]⟩ : ByteArray)).toList := by unfold encT; simp
  rw [this]
theorem decode_sound (s : ByteArray) (n : Nat) (hn : n ≤ 60) (hs : s.size ≤ 100000) (k : Nat) (hk : 250000 < k) : ∃ c r ok, spec_l12Decode.f k s (n : Int) = some (c, r, ok) ∧ (ok = true → recB c r = true ∧ encT n c r = s ++ ⟨#[10]⟩) := by
  obtain ⟨k, rfl⟩ : ∃ m, k = m + 1 := ⟨k - 1, by omega⟩
  have h3 := digs_small_len (n := n) (by omega)
  obtain ⟨q1, hq1, _⟩ := split_f s 35 35 rfl (by omega) (k + 1) (by omega)
  have hz := (headB_size s 35).1
  have ha : (digs n ++ (⟨#[32]⟩ : ByteArray)).size = (digs n).size + 1 := by rw [ByteArray.size_append, size_lit]
  unfold spec_l12Decode.f
  rw [num_f 1 n (k + 1) (by omega) (by omega) (by omega), Option.bind_some, if_pos (by omega), hq1, Option.bind_some]
  have e0 : rdOf ByteArray.empty (headB s 35 :: q1) 0 = headB s 35 := rfl
  simp only [e0]
  generalize headB s 35 = t at hz
  rw [if_pos (by simp only [List.length_cons]; omega)]
  have stop : ∀ a t, ∃ c r ok, spec_l12Decode.j0 (k + 1) s (n : Int) a t true = some (c, r, ok) ∧ (ok = true → recB c r = true ∧ encT n c r = s ++ ⟨#[10]⟩) := by
    intro a t
    rw [spec_l12Decode.j0, if_pos rfl]
    exact ⟨_, _, _, rfl, fun h => by cases h⟩
  by_cases h1 : (t.size : Int) < ((digs n).size : Int) + 1
  · rw [if_pos h1]; exact stop _ _
  · rw [if_neg h1, if_pos (by omega), if_pos (by omega)]
    cases hb : ((t.extract 0 ((((digs n).size : Int) + 1) : Int).toNat).toList != (digs n ++ (⟨#[32]⟩ : ByteArray)).toList) with
    | true => exact stop _ _
    | false =>
      rw [spec_l12Decode.j0, if_neg (by simp), ha, if_pos (by omega), if_pos (by omega)]
      have hu : (t.extract ((digs n).size + 1) t.size).size = t.size - ((digs n).size + 1) := by rw [ByteArray.size_extract, Nat.min_self]
      rw [← hu]
      generalize t.extract ((digs n).size + 1) t.size = u at hu
      obtain ⟨q2, hq2, _⟩ := split_f u 64 64 rfl (by omega) k (by omega)
      have hz2 := (headB_size u 64).1
      have e1 : rdOf ByteArray.empty (headB u 64 :: q2) 0 = headB u 64 := rfl
      rw [hq2, Option.bind_some]
      simp only [e1]
      generalize headB u 64 = c at hz2
      rw [if_pos (by simp only [List.length_cons]; omega)]
      by_cases h2 : (c.size : Int) = (u.size : Int)
      · rw [if_pos h2]; exact ⟨_, _, _, rfl, fun h => by cases h⟩
      · have w1 := wrap_succ c.size (by omega)
        have t2 : (((c.size + 1 : Nat) : Int)).toNat = c.size + 1 := Int.toNat_natCast (c.size + 1)
        rw [if_neg h2, w1, if_pos (by omega), if_pos (by omega), t2]
        have hr : (u.extract (c.size + 1) u.size).size ≤ u.size := by rw [ByteArray.size_extract]; omega
        generalize u.extract (c.size + 1) u.size = r at hr
        rw [l12Record_f c r (by omega) (by omega) k (by omega), Option.bind_some]
        cases hv : recB c r with
        | false => exact ⟨_, _, _, rfl, fun h => by cases h⟩
        | true =>
          rw [if_pos rfl, line_f (by omega) hv k (by omega), Option.bind_some, if_pos (by omega)]
          refine ⟨_, _, _, rfl, fun h => ⟨hv, ?_⟩⟩
          exact (toList_eq _ _).1 (by simpa using h)
end Go.Proofs.YtaabfffpknkpeaaDoor.Q
