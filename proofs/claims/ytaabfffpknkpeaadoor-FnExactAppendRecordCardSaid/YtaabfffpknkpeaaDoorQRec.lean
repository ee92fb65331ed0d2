import Derived.Test.YtaabfffpknkpeaaDoorPx4
import Derived.Test.YtaabfffpknkpeaaDoorPx1
import Derived.Test.YtaabfffpknkpeaaDoorGivC1
/- Plain facts on records that are valid. -/
namespace Go.Proofs.YtaabfffpknkpeaaDoor.Q
open Go.RowKit Go.Proofs.YtaabfffpknkpeaaDoor.Px Go.Proofs.YtaabfffpknkpeaaDoor.Giv Go.Proofs.YtaabfffpknkpeaaDoorW.PrintWords Go.Proofs.YtaabfffpknkpeaaDoorW.PrintLast
set_option linter.unusedVariables false
set_option linter.unusedSimpArgs false
theorem wrap_id (x : Int) (h0 : -9223372036854775808 ≤ x) (h1 : x ≤ 9223372036854775807) : wrap64 x = x := by unfold wrap64; omega
theorem in_f (a lo hi : Int) : spec_l1In.f a lo hi = some (decide (lo ≤ a ∧ a ≤ hi)) := by
  unfold spec_l1In.f
  by_cases h : a ≥ lo
  · rw [if_pos h]
    by_cases h2 : a ≤ hi <;> simp [h2, show lo ≤ a from h]
  · rw [if_neg h]
    have h' : ¬ lo ≤ a := h
    simp [h']
def plainC (x : Int) : Bool := decide (32 ≤ x ∧ x ≤ 126) && !decide (x = 35)
/-- All bytes from a place on are plain. -/
def plainFrom (s : ByteArray) : Nat → Nat → Bool
  | 0, _ => true
  | d + 1, i => if plainC (bt s (i : Int)) = true then plainFrom s d (i + 1) else false
theorem isPlain_l0 (s : ByteArray) (hs : s.size ≤ 1099511627776) : ∀ (d i k : Nat), s.size - i = d → i ≤ s.size → d < k → impl_isPlain.l0 k s (s.size : Int) (i : Int) = some (plainFrom s d i) := by
  intro d
  induction d with
  | zero =>
    intro i k hd hi hk
    obtain ⟨k, rfl⟩ : ∃ m, k = m + 1 := ⟨k - 1, by omega⟩
    rw [impl_isPlain.l0, if_neg (by omega)]
    rfl
  | succ d ih =>
    intro i k hd hi hk
    obtain ⟨k, rfl⟩ : ∃ m, k = m + 1 := ⟨k - 1, by omega⟩
    have e : wrap64 ((i : Int) + 1) = ((i + 1 : Nat) : Int) := by rw [wrap_id _ (by omega) (by omega)]; omega
    rw [impl_isPlain.l0, if_pos (by omega), if_pos (by omega), if_pos (by omega), e]
    by_cases h1 : bt s (i : Int) < 32
    · have hp : plainC (bt s (i : Int)) = false := by unfold plainC; rw [decide_eq_false (by omega)]; rfl
      rw [if_pos h1]; simp only [plainFrom]; rw [hp]; simp
    · rw [if_neg h1]
      by_cases h2 : bt s (i : Int) > 126
      · have hp : plainC (bt s (i : Int)) = false := by unfold plainC; rw [decide_eq_false (by omega)]; rfl
        rw [if_pos h2]; simp only [plainFrom]; rw [hp]; simp
      · rw [if_neg h2]
        by_cases h3 : bt s (i : Int) = 35
        · have hp : plainC (bt s (i : Int)) = false := by unfold plainC; rw [h3]; rfl
          rw [if_pos h3]; simp only [plainFrom]; rw [hp]; simp
        · have hp : plainC (bt s (i : Int)) = true := by unfold plainC; rw [decide_eq_true (by omega), decide_eq_false h3]; rfl
          rw [if_neg h3, ih (i + 1) k (by omega) (by omega) (by omega)]; simp only [plainFrom]; rw [hp]; simp
theorem bytes_l0 (s : ByteArray) (m : Int) (hs : s.size ≤ 1099511627776) : ∀ (d i k : Nat), s.size - i = d → i ≤ s.size → d < k → spec_l12Bytes.l0 k s m (i : Int) = some (plainFrom s d i && decide ((s.size : Int) ≤ m)) := by
  intro d
  induction d with
  | zero =>
    intro i k hd hi hk
    obtain ⟨k, rfl⟩ : ∃ m, k = m + 1 := ⟨k - 1, by omega⟩
    rw [spec_l12Bytes.l0, if_neg (by omega)]
    simp [plainFrom]
  | succ d ih =>
    intro i k hd hi hk
    obtain ⟨k, rfl⟩ : ∃ m, k = m + 1 := ⟨k - 1, by omega⟩
    have e : wrap64 ((i : Int) + 1) = ((i + 1 : Nat) : Int) := by rw [wrap_id _ (by omega) (by omega)]; omega
    have hr := bt_range s (i : Int)
    rw [spec_l12Bytes.l0, if_pos (by omega), if_pos (by omega), wrap_id (bt s (i : Int)) (by omega) (by omega), in_f, Option.bind_some, e]
    by_cases h1 : 32 ≤ bt s (i : Int) ∧ bt s (i : Int) ≤ 126
    · rw [if_pos (decide_eq_true h1)]
      by_cases h3 : bt s (i : Int) = 35
      · have hp : plainC (bt s (i : Int)) = false := by unfold plainC; rw [h3]; rfl
        rw [if_pos h3]; simp only [plainFrom]; rw [hp]; simp
      · have hp : plainC (bt s (i : Int)) = true := by unfold plainC; rw [decide_eq_true h1, decide_eq_false h3]; rfl
        rw [if_neg h3, ih (i + 1) k (by omega) (by omega) (by omega)]; simp only [plainFrom]; rw [hp]; simp
    · have hp : plainC (bt s (i : Int)) = false := by unfold plainC; rw [decide_eq_false h1]; rfl
      rw [if_neg (by simp; omega)]; simp only [plainFrom]; rw [hp]; simp
def plainS (s : ByteArray) : Bool := plainFrom s s.size 0
theorem isPlain_f (s : ByteArray) (hs : s.size ≤ 1099511627776) (k : Nat) (hk : s.size < k) : impl_isPlain.f k s = some (plainS s) := by
  unfold impl_isPlain.f
  exact isPlain_l0 s hs s.size 0 k (by omega) (by omega) hk
theorem bytes_f (s : ByteArray) (m : Int) (hs : s.size ≤ 1099511627776) (k : Nat) (hk : s.size < k) : spec_l12Bytes.f k s m = some (plainS s && decide ((s.size : Int) ≤ m)) := by
  unfold spec_l12Bytes.f
  exact bytes_l0 s m hs s.size 0 k (by omega) (by omega) hk
/-- A byte stands in a text from a place on. -/
def standsFrom (s : ByteArray) (b : Int) : Nat → Nat → Bool
  | 0, _ => false
  | d + 1, i => if bt s (i : Int) = b then true else standsFrom s b d (i + 1)
theorem stands_l0 (s : ByteArray) (b : Int) (hs : s.size ≤ 1099511627776) : ∀ (d i k : Nat), s.size - i = d → i ≤ s.size → d < k → spec_l1Stands.l0 k s b (i : Int) = some (standsFrom s b d i) := by
  intro d
  induction d with
  | zero =>
    intro i k hd hi hk
    obtain ⟨k, rfl⟩ : ∃ m, k = m + 1 := ⟨k - 1, by omega⟩
    rw [spec_l1Stands.l0, if_neg (by omega)]
    rfl
  | succ d ih =>
    intro i k hd hi hk
    obtain ⟨k, rfl⟩ : ∃ m, k = m + 1 := ⟨k - 1, by omega⟩
    have e : wrap64 ((i : Int) + 1) = ((i + 1 : Nat) : Int) := by rw [wrap_id _ (by omega) (by omega)]; omega
    rw [spec_l1Stands.l0, if_pos (by omega), if_pos (by omega), e, ih (i + 1) k (by omega) (by omega) (by omega)]
    simp only [standsFrom]
    split <;> rfl
theorem bt_data (s : ByteArray) (i : Nat) (h : i < s.size) : ∃ b, s.data.toList[i]? = some b ∧ bt s (i : Int) = (b.toNat : Int) := by
  refine ⟨s[i], ?_, ?_⟩
  · have : s.data.toList[i]? = s.data[i]? := by simp
    rw [this, Array.getElem?_eq_getElem (by simpa using h)]
    rfl
  · unfold bt
    rw [dif_pos (by simpa using h)]
    rfl
theorem index_pos : ∀ (l : List UInt8) (c : UInt8), decide (0 ≤ Lib.indexByte l c) = l.contains c
  | [], c => rfl
  | b :: l, c => by
    have ih := index_pos l c
    unfold Lib.indexByte
    by_cases h : b = c
    · subst h; simp
    · have h1 : (b == c) = false := by simpa using h
      have h2 : (c == b) = false := by simpa using fun e => h e.symm
      rw [List.contains_cons, h1, h2, if_neg (by simp), Bool.false_or, ← ih]
      by_cases h3 : Lib.indexByte l c = -1
      · rw [h3]; rfl
      · have h4 : (Lib.indexByte l c == -1) = false := by simpa using h3
        rw [h4, if_neg (by simp)]
        have h5 : -1 ≤ Lib.indexByte l c := by
          clear ih h1 h2 h3 h4 h
          induction l with
          | nil => unfold Lib.indexByte; omega
          | cons x xs ihx =>
            unfold Lib.indexByte
            split
            · omega
            · split <;> omega
        rw [decide_eq_decide]
        omega
theorem stands_list (s : ByteArray) (c : UInt8) : ∀ (d i : Nat), i + d = s.size → standsFrom s (c.toNat : Int) d i = (s.data.toList.drop i).contains c := by
  have hsz : s.data.toList.length = s.size := by simp
  intro d
  induction d with
  | zero =>
    intro i hi
    rw [List.drop_of_length_le (by omega)]
    rfl
  | succ d ih =>
    intro i hi
    obtain ⟨b, hb, hv⟩ := bt_data s i (by omega)
    have hdr : s.data.toList.drop i = b :: s.data.toList.drop (i + 1) := by
      rw [List.drop_eq_getElem_cons (by omega)]
      congr 1
      rw [List.getElem?_eq_getElem (by omega)] at hb
      exact Option.some.inj hb
    simp only [standsFrom]
    rw [hdr, List.contains_cons, hv, ih (i + 1) (by omega)]
    by_cases h : b = c
    · subst h; simp
    · have hn : ¬ ((b.toNat : Int) = (c.toNat : Int)) := by
        intro h1
        apply h
        have : b.toNat = c.toNat := by omega
        exact UInt8.toNat_inj.mp this
      have h2 : (c == b) = false := by simpa using fun e => h e.symm
      rw [if_neg hn, h2, Bool.false_or]
/-- A byte stands in a text. -/
def hasB (s : ByteArray) (c : UInt8) : Bool := s.data.toList.contains c
theorem stands_f (s : ByteArray) (c : UInt8) (b : Int) (hb : b = (c.toNat : Int)) (hs : s.size ≤ 1099511627776) (k : Nat) (hk : s.size < k) : spec_l1Stands.f k s b = some (hasB s c) := by
  unfold spec_l1Stands.f
  rw [show (0 : Int) = ((0 : Nat) : Int) from rfl, stands_l0 s b hs s.size 0 k (by omega) (by omega) hk, hb, stands_list s c s.size 0 (by omega)]
  rfl
theorem contains_f (s : ByteArray) (c : UInt8) : strings_Contains.f s ⟨#[c]⟩ = some (hasB s c) := by
  unfold strings_Contains.f
  show some (decide (0 ≤ Lib.indexByte s.data.toList c)) = _
  rw [index_pos]
  rfl
theorem empty_iff (s : ByteArray) : s.toList = ([] : List UInt8) ↔ s.size = 0 := by
  rw [Lib.toList_data]
  rw [Lib.size_eq]
  exact List.length_eq_zero_iff.symm
/-- A record is valid. -/
def recB (c r : ByteArray) : Bool := decide (1 ≤ c.size) && decide (c.size ≤ 160) && plainS c && !hasB c 64 && (decide (r.size ≤ 250) && plainS r)
theorem l12Record_f (c r : ByteArray) (hc : c.size ≤ 1048576) (hr : r.size ≤ 1048576) (k : Nat) (hk : c.size + r.size < k) : spec_l12Record.f k c r = some (recB c r) := by
  unfold spec_l12Record.f recB
  by_cases h0 : c.size = 0
  · rw [if_pos ((empty_iff c).mpr h0), decide_eq_false (by omega)]; simp
  · rw [if_neg (fun h => h0 ((empty_iff c).mp h)), bytes_f c 160 (by omega) k (by omega), Option.bind_some, stands_f c 64 64 rfl (by omega) k (by omega), bytes_f r 250 (by omega) k (by omega), decide_eq_true (by omega : 1 ≤ c.size), Option.bind_some, Option.bind_some]
    have e1 : decide ((c.size : Int) ≤ 160) = decide (c.size ≤ 160) := by rw [decide_eq_decide]; omega
    have e2 : decide ((r.size : Int) ≤ 250) = decide (r.size ≤ 250) := by rw [decide_eq_decide]; omega
    rw [e1, e2]
    cases plainS c <;> cases decide (c.size ≤ 160) <;> cases hasB c 64 <;> cases plainS r <;> cases decide (r.size ≤ 250) <;> simp
theorem isCommand_f (c : ByteArray) (hc : c.size ≤ 1048576) (k : Nat) (hk : c.size < k) : impl_isCommand.f k c = some (decide (1 ≤ c.size) && decide (c.size ≤ 160) && plainS c && !hasB c 64) := by
  unfold impl_isCommand.f
  by_cases h0 : c.size = 0
  · rw [if_neg (by omega), decide_eq_false (by omega)]; simp
  · rw [if_pos (by omega), decide_eq_true (by omega : 1 ≤ c.size)]
    by_cases h1 : c.size ≤ 160
    · rw [if_pos (by omega), isPlain_f c (by omega) k hk, Option.bind_some, contains_f, decide_eq_true h1]
      cases plainS c <;> cases hasB c 64 <;> simp
    · rw [if_neg (by omega), decide_eq_false h1]; simp
end Go.Proofs.YtaabfffpknkpeaaDoor.Q
