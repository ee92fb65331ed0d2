import Derived.Test.YtaabfffpknkpeaaDoorPx20
import Derived.Test.YtaabfffpknkpeaaDoorPx19
import Derived.Test.YtaabfffpknkpeaaDoorQLog
/- Marks on lists of records. -/
namespace Go.Proofs.YtaabfffpknkpeaaDoor.Q
open Go.RowKit Go.Proofs.YtaabfffpknkpeaaDoor.Px Go.Proofs.YtaabfffpknkpeaaDoor.Giv Go.Proofs.YtaabfffpknkpeaaDoorW.PrintWords Go.Proofs.YtaabfffpknkpeaaDoorW.PrintLast Go.Proofs.YtaabfffpknkpeaaDoorW.PrintMore
set_option linter.unusedVariables false
set_option linter.unusedSimpArgs false
theorem strOf_size (l : List Int) : (strOfNums l).size = l.length := by
  unfold strOfNums
  show (List.toArray _).size = _
  simp
/-- The text of a mark, from its end on. -/
def markL : Nat → Nat → ByteArray → ByteArray
  | 0, _, s => ⟨#[109]⟩ ++ s
  | d + 1, n, s => if n = 0 then ⟨#[109]⟩ ++ s else markL d (n / 10) (strOfNums [(wrap64 (48 + (Int.tmod (n : Int) 10))) % 256] ++ s)
theorem mark_l0 : ∀ (d n k : Nat) (s : ByteArray), n < 10 ^ d → d ≤ 15 → d < k → s.size ≤ 100 - d → laws_markText.l0 k (n : Int) s = some (markL d n s)
  | 0, n, k, s, hn, hd, hk, hs => by
    obtain ⟨k, rfl⟩ : ∃ m, k = m + 1 := ⟨k - 1, by omega⟩
    have : n = 0 := by simpa using hn
    subst this
    rw [laws_markText.l0, if_neg (by omega), if_pos (by omega)]
    rfl
  | d + 1, n, k, s, hn, hd, hk, hs => by
    obtain ⟨k, rfl⟩ : ∃ m, k = m + 1 := ⟨k - 1, by omega⟩
    by_cases h0 : n = 0
    · rw [laws_markText.l0, if_neg (by omega), if_pos (by omega)]
      simp only [markL]
      rw [if_pos h0]
    · have hdiv : n / 10 < 10 ^ d := by rw [Nat.pow_succ] at hn; omega
      have hbig : n < 10 ^ 16 := Nat.lt_of_lt_of_le hn (Nat.pow_le_pow_right (by omega) (by omega))
      have hl : (strOfNums [(wrap64 (48 + (Int.tmod (n : Int) 10))) % 256]).size = 1 := by rw [strOf_size]; rfl
      have e1 : wrap64 (Int.tdiv (n : Int) 10) = ((n / 10 : Nat) : Int) := by
        have h_ := wrap_id ((n / 10 : Nat) : Int) (by omega) (by omega)
        rw [← h_]
        rfl
      have ih := mark_l0 d (n / 10) k (strOfNums [(wrap64 (48 + (Int.tmod (n : Int) 10))) % 256] ++ s) hdiv (by omega) (by omega) (by rw [ByteArray.size_append, hl]; omega)
      rw [laws_markText.l0, if_pos (by omega)]
      show (if (strOfNums [(wrap64 (48 + (Int.tmod (n : Int) 10))) % 256]).size + s.size ≤ 9223372036854775807 then laws_markText.l0 k (wrap64 (Int.tdiv (n : Int) 10)) (strOfNums [(wrap64 (48 + (Int.tmod (n : Int) 10))) % 256] ++ s) else none) = _
      rw [hl, if_pos (by omega), e1, ih]
      simp only [markL]
      rw [if_neg h0]
/-- A mark's text. -/
def markT (n : Nat) : ByteArray := markL 6 n ⟨#[]⟩
theorem mark_f (n k : Nat) (h0 : 0 < n) (hn : n < 1000000) (hk : 6 < k) : laws_markText.f k (n : Int) = some (markT n) := by
  unfold laws_markText.f
  rw [if_neg (by omega)]
  exact mark_l0 6 n k _ (by omega) (by omega) hk (by decide)
/-- The marked records from a place on. -/
def marksR (i n : Nat) : List S27 := (List.range' i n).map fun j => ⟨markT (2 * j + 1), markT (2 * j + 2)⟩
theorem rd_S (l : List S27) (i : Nat) (h : i < l.length) : rd_T27 l (i : Int) = l[i] := by
  unfold rd_T27
  rw [Int.toNat_natCast, List.getD_eq_getElem?_getD, List.getElem?_eq_getElem h]
  rfl
theorem marksR_length (i n : Nat) : (marksR i n).length = n := by unfold marksR; simp
theorem marksR_get (n i : Nat) (h : i < n) : rd_T27 (marksR 0 n) (i : Int) = ⟨markT (2 * i + 1), markT (2 * i + 2)⟩ := by
  rw [rd_S _ i (by rw [marksR_length]; exact h)]
  unfold marksR
  simp
theorem wr_mark1 (i : Nat) (h : i ≤ 100000) : wrap64 (((2 * i + 1 : Nat) : Int) + 1) = ((2 * i + 2 : Nat) : Int) :=
  (wrap_succ (2 * i + 1) (by omega)).trans (congrArg (fun n : Nat => (n : Int)) (show 2 * i + 1 + 1 = 2 * i + 2 by omega))
theorem wr_mark2 (i : Nat) (h : i ≤ 100000) : wrap64 (((2 * i + 2 : Nat) : Int) + 1) = ((2 * (i + 1) + 1 : Nat) : Int) :=
  (wrap_succ (2 * i + 2) (by omega)).trans (congrArg (fun n : Nat => (n : Int)) (show 2 * i + 2 + 1 = 2 * (i + 1) + 1 by omega))
theorem markR_l0 (n : Nat) (hn : n ≤ 1000) : ∀ (d i k : Nat) (x : List S27), n - i = d → i ≤ n → d + 10 < k → x.length = n → x.take i = (marksR 0 n).take i →
    laws_markLogRecordS.l0 k x ((2 * i + 1 : Nat) : Int) (i : Int) = some (((2 * n + 1 : Nat) : Int), marksR 0 n) := by
  intro d
  induction d with
  | zero =>
    intro i k x hd hi hk hx ht
    obtain ⟨k, rfl⟩ : ∃ m, k = m + 1 := ⟨k - 1, by omega⟩
    have : i = n := by omega
    subst this
    rw [List.take_of_length_le (by omega), List.take_of_length_le (by rw [marksR_length]; omega)] at ht
    rw [laws_markLogRecordS.l0, if_neg (by omega), ht]
  | succ d ih =>
    intro i k x hd hi hk hx ht
    obtain ⟨k, rfl⟩ : ∃ m, k = m + 1 := ⟨k - 1, by omega⟩
    have hm := marksR_get n i (by omega)
    rw [rd_S _ i (by rw [marksR_length]; omega)] at hm
    have hset : ((x.set i ⟨markT (2 * i + 1), (rd_T27 x (i : Int)).f1⟩).set i ⟨markT (2 * i + 1), markT (2 * i + 2)⟩).take (i + 1) = (marksR 0 n).take (i + 1) := by
      rw [List.set_set, List.take_succ_eq_append_getElem (by rw [List.length_set]; omega), List.take_succ_eq_append_getElem (by rw [marksR_length]; omega), List.getElem_set_self, hm, List.take_set_of_le (by omega), ht]
    have ih := ih (i + 1) k ((x.set i ⟨markT (2 * i + 1), (rd_T27 x (i : Int)).f1⟩).set i ⟨markT (2 * i + 1), markT (2 * i + 2)⟩) (by omega) (by omega) (by omega) (by rw [List.length_set, List.length_set]; exact hx) hset
    have hr : (rd_T27 (x.set i ⟨markT (2 * i + 1), (rd_T27 x (i : Int)).f1⟩) (i : Int)).f0 = markT (2 * i + 1) := by
      rw [rd_S _ i (by rw [List.length_set]; omega), List.getElem_set_self]
    rw [laws_markLogRecordS.l0, if_pos (by omega), mark_f (2 * i + 1) k (by omega) (by omega) (by omega), Option.bind_some, if_pos (by omega)]
    rw [Option.bind_some]
    rw [wr_mark1 i (by omega), wr_mark2 i (by omega), wrap_succ i (by omega), mark_f (2 * i + 2) k (by omega) (by omega) (by omega), Option.bind_some, Int.toNat_natCast, hr]
    exact ih
theorem markR_f (x : List S27) (hn : x.length ≤ 1000) (k : Nat) (hk : x.length + 10 < k) : laws_markLogRecordS.f k x 1 = some (((2 * x.length + 1 : Nat) : Int), marksR 0 x.length) := by
  unfold laws_markLogRecordS.f
  exact markR_l0 x.length hn x.length 0 k x (by omega) (by omega) hk rfl (by simp)
theorem heldR_l0 (n : Nat) (hn : n ≤ 1000) : ∀ (d i k : Nat), n - i = d → i ≤ n → d + 10 < k → laws_heldLogRecordS.l0 k (marksR 0 n) ((2 * i + 1 : Nat) : Int) (i : Int) = some ((2 * n + 1 : Nat) : Int) := by
  intro d
  induction d with
  | zero =>
    intro i k hd hi hk
    obtain ⟨k, rfl⟩ : ∃ m, k = m + 1 := ⟨k - 1, by omega⟩
    have : i = n := by omega
    subst this
    rw [laws_heldLogRecordS.l0, if_neg (by rw [marksR_length]; omega)]
  | succ d ih =>
    intro i k hd hi hk
    obtain ⟨k, rfl⟩ : ∃ m, k = m + 1 := ⟨k - 1, by omega⟩
    have ih := ih (i + 1) k (by omega) (by omega) (by omega)
    rw [laws_heldLogRecordS.l0, if_pos (by rw [marksR_length]; omega), if_pos (by omega), mark_f (2 * i + 1) k (by omega) (by omega) (by omega), Option.bind_some, marksR_get n i (by omega), if_pos rfl, wr_mark1 i (by omega), wr_mark2 i (by omega), wrap_succ i (by omega), mark_f (2 * i + 2) k (by omega) (by omega) (by omega), Option.bind_some, if_pos rfl]
    exact ih
theorem heldR_f (n : Nat) (hn : n ≤ 1000) (k : Nat) (hk : n + 10 < k) : laws_heldLogRecordS.f k (marksR 0 n) 1 = some ((2 * n + 1 : Nat) : Int) := by
  unfold laws_heldLogRecordS.f
  exact heldR_l0 n hn n 0 k (by omega) (by omega) hk
theorem eqR_l0 (x : List S27) (hn : x.length ≤ 100000) : ∀ (d i k : Nat), x.length - i = d → i ≤ x.length → d < k → laws_eqLogRecordS.l0 k x x (i : Int) = some true := by
  intro d
  induction d with
  | zero =>
    intro i k hd hi hk
    obtain ⟨k, rfl⟩ : ∃ m, k = m + 1 := ⟨k - 1, by omega⟩
    rw [laws_eqLogRecordS.l0, if_neg (by omega)]
  | succ d ih =>
    intro i k hd hi hk
    obtain ⟨k, rfl⟩ : ∃ m, k = m + 1 := ⟨k - 1, by omega⟩
    have ih := ih (i + 1) k (by omega) (by omega) (by omega)
    rw [laws_eqLogRecordS.l0, if_pos (by omega), if_pos (by omega), if_pos (by omega)]
    unfold laws_eqLogRecord.f
    rw [if_pos rfl, if_pos rfl, Option.bind_some, if_pos rfl, wrap_succ i (by omega)]
    exact ih
theorem eqR_f (x : List S27) (hn : x.length ≤ 100000) (k : Nat) (hk : x.length < k) : laws_eqLogRecordS.f k x x = some true := by
  unfold laws_eqLogRecordS.f
  rw [if_pos rfl]
  exact eqR_l0 x hn x.length 0 k (by omega) (by omega) hk
end Go.Proofs.YtaabfffpknkpeaaDoor.Q
