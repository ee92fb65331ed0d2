import Derived.Test.YtaabfffpknkpeaaDoorPx7
import Derived.Test.YtaabfffpknkpeaaDoorQEnc
/- Plain facts on texts that are cut at a byte, and on records that are read back. -/
namespace Go.Proofs.YtaabfffpknkpeaaDoor.Q
open Go.RowKit Go.Proofs.YtaabfffpknkpeaaDoor.Px Go.Proofs.YtaabfffpknkpeaaDoor.Giv Go.Proofs.YtaabfffpknkpeaaDoorW.PrintWords Go.Proofs.YtaabfffpknkpeaaDoorW.PrintLast Go.Proofs.YtaabfffpknkpeaaDoorW.PrintMore
set_option linter.unusedVariables false
set_option linter.unusedSimpArgs false
theorem idx_here : ∀ (l1 l2 : List UInt8) (c : UInt8), c ∉ l1 → Lib.indexByte (l1 ++ c :: l2) c = (l1.length : Int)
  | [], l2, c, _ => by simp [Lib.indexByte]
  | b :: l1, l2, c, h => by
    have ih := idx_here l1 l2 c (fun h1 => h (List.mem_cons_of_mem _ h1))
    have hb : (b == c) = false := by
      have : b ≠ c := fun h1 => h (h1 ▸ List.mem_cons_self)
      simpa using this
    show Lib.indexByte (b :: (l1 ++ c :: l2)) c = _
    unfold Lib.indexByte
    have hne : ¬ ((l1.length : Int) == -1) = true := by simp
    rw [hb, ih, if_neg (by simp), if_neg hne, List.length_cons]
    omega
theorem idx_none : ∀ (l : List UInt8) (c : UInt8), c ∉ l → Lib.indexByte l c = -1
  | [], c, _ => by simp [Lib.indexByte]
  | b :: l, c, h => by
    have ih := idx_none l c (fun h1 => h (List.mem_cons_of_mem _ h1))
    have hb : (b == c) = false := by
      have : b ≠ c := fun h1 => h (h1 ▸ List.mem_cons_self)
      simpa using this
    unfold Lib.indexByte
    rw [hb, ih, if_neg (by simp), if_pos (by simp)]
theorem idx_split (l : List UInt8) (c : UInt8) (h : c ∈ l) : ∃ l1 l2, l = l1 ++ c :: l2 ∧ c ∉ l1 := List.eq_append_cons_of_mem h
theorem dec_range (n : Nat) : ∀ b ∈ Lib.decDigits n, 48 ≤ b.toNat ∧ b.toNat ≤ 57 := by
  induction n using Nat.strongRecOn with
  | _ n ih =>
    intro b hb
    rw [Lib.decDigits] at hb
    have h1 : ∀ d, d < 10 → ∀ b ∈ [UInt8.ofNat (48 + d)], 48 ≤ b.toNat ∧ b.toNat ≤ 57 := by
      intro d hd b hb
      rw [List.mem_singleton.1 hb]
      have : (UInt8.ofNat (48 + d)).toNat = 48 + d := by simp; omega
      omega
    split at hb
    · exact h1 n (by omega) b hb
    · rcases List.mem_append.1 hb with hb | hb
      · exact ih (n / 10) (by omega) b hb
      · exact h1 (n % 10) (by omega) b hb
theorem wrap_succ (i : Nat) (h : i ≤ 1099511627776) : wrap64 ((i : Int) + 1) = ((i + 1 : Nat) : Int) := by have h_ := wrap_id ((i : Int) + 1) (by omega) (by omega); omega
theorem wrap_add (a b : Nat) (h : a + b ≤ 1099511627776) : wrap64 ((a : Int) + (b : Int)) = ((a + b : Nat) : Int) := by have h_ := wrap_id ((a : Int) + (b : Int)) (by omega) (by omega); omega
/-- A text's bytes. -/
def BL (s : ByteArray) : List UInt8 := s.data.toList
theorem BL_inj {a b : ByteArray} (h : BL a = BL b) : a = b := ByteArray.ext (Array.ext' h)
theorem BL_append (a b : ByteArray) : BL (a ++ b) = BL a ++ BL b := by unfold BL; rw [ByteArray.data_append, Array.toList_append]
theorem BL_len (a : ByteArray) : (BL a).length = a.size := by unfold BL; simp
theorem BL_extract (a : ByteArray) (i j : Nat) : BL (a.extract i j) = ((BL a).drop i).take (j - i) := by
  unfold BL
  rw [ByteArray.data_extract, Array.toList_extract, List.extract_eq_take_drop]
theorem BL_suffix (a : ByteArray) (i : Nat) : BL (a.extract i a.size) = (BL a).drop i := by
  rw [BL_extract, List.take_of_length_le (by rw [List.length_drop, BL_len]; omega)]
theorem BL_prefix (a : ByteArray) (j : Nat) : BL (a.extract 0 j) = (BL a).take j := by
  rw [BL_extract, List.drop_zero, Nat.sub_zero]
theorem toList_BL (a : ByteArray) : a.toList = BL a := Lib.toList_data a
theorem toList_eq (a b : ByteArray) : a.toList = b.toList ↔ a = b := by
  rw [toList_BL, toList_BL]
  exact ⟨BL_inj, fun h => by rw [h]⟩
theorem hasB_iff (s : ByteArray) (c : UInt8) : hasB s c = true ↔ c ∈ BL s := by unfold hasB BL; exact List.contains_iff_mem
theorem hasB_not (s : ByteArray) (c : UInt8) : hasB s c = false ↔ c ∉ BL s := by
  rw [← hasB_iff]; simp
def mkB (l : List UInt8) : ByteArray := ⟨l.toArray⟩
theorem BL_mk (l : List UInt8) : BL (mkB l) = l := rfl
/-- The text ahead of a byte's first place (the whole text, if it isn't there), and that behind it. -/
def headB (s : ByteArray) (c : UInt8) : ByteArray := if 0 ≤ Lib.indexByte (BL s) c then s.extract 0 (Lib.indexByte (BL s) c).toNat else s
def tailB (s : ByteArray) (c : UInt8) : ByteArray := if 0 ≤ Lib.indexByte (BL s) c then s.extract ((Lib.indexByte (BL s) c).toNat + 1) s.size else ⟨#[]⟩
theorem cut_f (s : ByteArray) (c : UInt8) (hs : s.size ≤ 1099511627776) : strings_Cut.f s ⟨#[c]⟩ = some (headB s c, tailB s c, hasB s c) := by
  show (if s.size ≤ 1099511627776 then some (if 0 ≤ Lib.indexByte (BL s) c then (s.extract 0 (Lib.indexByte (BL s) c).toNat, s.extract ((Lib.indexByte (BL s) c).toNat + 1) s.size, true) else (s, ⟨#[]⟩, false)) else none) = _
  have h := index_pos (BL s) c
  rw [if_pos hs]
  unfold headB tailB
  have h2 : hasB s c = decide (0 ≤ Lib.indexByte (BL s) c) := by rw [h]; rfl
  by_cases h0 : 0 ≤ Lib.indexByte (BL s) c
  · rw [if_pos h0, if_pos h0, if_pos h0, h2, decide_eq_true h0]
  · rw [if_neg h0, if_neg h0, if_neg h0, h2, decide_eq_false h0]
theorem headB_at {s a b : ByteArray} {c : UInt8} (h : BL s = BL a ++ c :: BL b) (ha : c ∉ BL a) : headB s c = a ∧ tailB s c = b ∧ hasB s c = true := by
  have hi : Lib.indexByte (BL s) c = (a.size : Int) := by rw [h, idx_here _ _ _ ha, BL_len]
  unfold headB tailB
  rw [hi, if_pos (by omega), if_pos (by omega), Int.toNat_natCast]
  refine ⟨BL_inj ?_, BL_inj ?_, (hasB_iff s c).2 (by rw [h]; simp)⟩
  · rw [BL_prefix, h, List.take_append_of_le_length (by rw [BL_len]; omega), List.take_of_length_le (by rw [BL_len]; omega)]
  · rw [BL_suffix, h, List.drop_append, List.drop_of_length_le (by rw [BL_len]; omega), BL_len, Nat.add_sub_cancel_left]
    rfl
theorem headB_no {s : ByteArray} {c : UInt8} (h : c ∉ BL s) : headB s c = s ∧ tailB s c = ⟨#[]⟩ := by
  unfold headB tailB
  rw [idx_none _ _ h, if_neg (by omega), if_neg (by omega)]
  exact ⟨rfl, rfl⟩
theorem headB_split {s : ByteArray} {c : UInt8} (h : hasB s c = true) : BL s = BL (headB s c) ++ c :: BL (tailB s c) ∧ c ∉ BL (headB s c) := by
  obtain ⟨l1, l2, h1, h2⟩ := idx_split _ _ ((hasB_iff s c).1 h)
  obtain ⟨e1, e2, _⟩ := headB_at (s := s) (a := mkB l1) (b := mkB l2) (c := c) (by rw [BL_mk, BL_mk]; exact h1) (by rw [BL_mk]; exact h2)
  rw [e1, e2, BL_mk, BL_mk]
  exact ⟨h1, h2⟩
theorem headB_size (s : ByteArray) (c : UInt8) : (headB s c).size ≤ s.size ∧ (tailB s c).size ≤ s.size := by
  cases h : hasB s c with
  | true =>
    have h1 := congrArg List.length (headB_split h).1
    rw [List.length_append, List.length_cons, BL_len, BL_len, BL_len] at h1
    omega
  | false =>
    obtain ⟨e1, e2⟩ := headB_no ((hasB_not s c).1 h)
    rw [e1, e2]
    exact ⟨Nat.le_refl _, Nat.zero_le _⟩
/-! ### the parts of a text between bytes -/
def tw (s : ByteArray) (c : UInt8) (i : Nat) : Nat := (((BL s).drop i).takeWhile (fun b => b != c)).length
theorem split_l0 (s : ByteArray) (c : UInt8) (hs : s.size ≤ 1099511627776) : ∀ (d i k : Nat) (out : List ByteArray) (a : Nat), s.size - i = d → i ≤ s.size → d < k → a ≤ i → out.length ≤ i →
    ∃ p rest, spec_l1Split.l0 k s (c.toNat : Int) out (a : Int) (i : Int) = some (out ++ p :: rest) ∧ p = s.extract a (i + tw s c i) ∧ (rest = [] ↔ c ∉ (BL s).drop i) := by
  intro d
  induction d with
  | zero =>
    intro i k out a hd hi hk ha ho
    obtain ⟨k, rfl⟩ : ∃ m, k = m + 1 := ⟨k - 1, by omega⟩
    have hdr : (BL s).drop i = [] := List.drop_of_length_le (by rw [BL_len]; omega)
    refine ⟨_, [], ?_, rfl, by rw [hdr]; simp⟩
    rw [spec_l1Split.l0, if_neg (by omega), if_pos (by omega), if_pos (by omega), if_pos (by omega), Int.toNat_natCast]
    have : i + tw s c i = s.size := by unfold tw; rw [hdr]; show i + 0 = s.size; omega
    rw [this]
  | succ d ih =>
    intro i k out a hd hi hk ha ho
    obtain ⟨k, rfl⟩ : ∃ m, k = m + 1 := ⟨k - 1, by omega⟩
    obtain ⟨b, hb, hv⟩ := bt_data s i (by omega)
    have hl : (BL s).length = s.size := BL_len s
    have hdr : (BL s).drop i = b :: (BL s).drop (i + 1) := by
      rw [List.drop_eq_getElem_cons (by omega)]
      congr 1
      have hb' : (BL s)[i]? = some b := hb
      rw [List.getElem?_eq_getElem (by omega)] at hb'
      exact Option.some.inj hb'
    rw [spec_l1Split.l0, if_pos (by omega), if_pos (by omega), wrap_succ i (by omega)]
    by_cases h : b = c
    · subst h
      obtain ⟨p, rest, h1, _, _⟩ := ih (i + 1) k (out ++ [s.extract a i]) (i + 1) (by omega) (by omega) (by omega) (by omega) (by rw [List.length_append, List.length_singleton]; omega)
      refine ⟨s.extract a i, p :: rest, ?_, ?_, ?_⟩
      · rw [if_pos hv, if_pos (by omega), if_pos (by omega), if_pos (by omega), if_pos (by omega), Int.toNat_natCast, Int.toNat_natCast, h1, List.append_assoc]
        rfl
      · have : tw s b i = 0 := by unfold tw; rw [hdr, List.takeWhile_cons]; simp
        rw [this, Nat.add_zero]
      · rw [hdr]; simp
    · obtain ⟨p, rest, h1, h2, h3⟩ := ih (i + 1) k out a (by omega) (by omega) (by omega) (by omega) (by omega)
      have hn : ¬ (bt s (i : Int) = (c.toNat : Int)) := by
        intro h4
        apply h
        have : b.toNat = c.toNat := by omega
        exact UInt8.toNat_inj.mp this
      refine ⟨p, rest, ?_, ?_, ?_⟩
      · rw [if_neg hn]; exact h1
      · have hbc : (b != c) = true := by simpa using h
        have : tw s c i = tw s c (i + 1) + 1 := by unfold tw; rw [hdr, List.takeWhile_cons, if_pos hbc, List.length_cons]
        rw [h2, this]
        congr 1
        omega
      · rw [h3, hdr, List.mem_cons, not_or]
        exact ⟨fun h5 => ⟨fun h6 => h h6.symm, h5⟩, fun h5 => h5.2⟩
theorem tw_head (s : ByteArray) (c : UInt8) : s.extract 0 (tw s c 0) = headB s c := by
  cases h : hasB s c with
  | true =>
    obtain ⟨h1, h2⟩ := headB_split h
    have : tw s c 0 = (headB s c).size := by
      unfold tw
      rw [List.drop_zero, h1, List.takeWhile_append_of_pos (by intro b hb; have h5 : b ≠ c := (fun e => by subst e; exact h2 hb); simpa using h5), List.takeWhile_cons]
      simp [BL_len]
    rw [this]
    apply BL_inj
    rw [BL_prefix]
    conv => lhs; rw [h1]
    rw [List.take_append_of_le_length (by rw [BL_len]; omega), List.take_of_length_le (by rw [BL_len]; omega)]
  | false =>
    have h1 := (hasB_not s c).1 h
    have h2 : ((BL s).takeWhile (fun b => b != c)) = BL s := by
      have h6 : ∀ l : List UInt8, c ∉ l → l.takeWhile (fun b => b != c) = l := by
        intro l
        induction l with
        | nil => intro _; rfl
        | cons b l ih =>
          intro h7
          have h5 : b ≠ c := fun e => h7 (by rw [e]; exact List.mem_cons_self)
          rw [List.takeWhile_cons, if_pos (by simpa using h5), ih (fun h8 => h7 (List.mem_cons_of_mem _ h8))]
      exact h6 _ h1
    have : tw s c 0 = s.size := by unfold tw; rw [List.drop_zero, h2, BL_len]
    rw [this, (headB_no h1).1]
    apply BL_inj
    rw [BL_prefix, List.take_of_length_le (by rw [BL_len]; omega)]
theorem split_f (s : ByteArray) (c : UInt8) (b : Int) (hb : b = (c.toNat : Int)) (hs : s.size ≤ 1099511627776) (k : Nat) (hk : s.size < k) : ∃ rest, spec_l1Split.f k s b = some (headB s c :: rest) ∧ (rest = [] ↔ hasB s c = false) := by
  obtain ⟨p, rest, h1, h2, h3⟩ := split_l0 s c hs s.size 0 k [] 0 (by omega) (by omega) hk (by omega) (by simp)
  refine ⟨rest, ?_, ?_⟩
  · unfold spec_l1Split.f
    rw [hb, ← tw_head, show (0 : Int) = ((0 : Nat) : Int) from rfl, h1, h2, Nat.zero_add]
    rfl
  · rw [h3, hasB_not, List.drop_zero]
end Go.Proofs.YtaabfffpknkpeaaDoor.Q
