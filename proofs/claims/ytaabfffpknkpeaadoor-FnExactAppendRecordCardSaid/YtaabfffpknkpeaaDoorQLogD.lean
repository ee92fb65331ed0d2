import Derived.Test.YtaabfffpknkpeaaDoorPx15
import Derived.Test.YtaabfffpknkpeaaDoorPx14
import Derived.Test.YtaabfffpknkpeaaDoorQLogE
/- Plain facts on logs: which are valid, what is recovered. -/
namespace Go.Proofs.YtaabfffpknkpeaaDoor.Q
open Go.RowKit Go.Proofs.YtaabfffpknkpeaaDoor.Px Go.Proofs.YtaabfffpknkpeaaDoor.Giv Go.Proofs.YtaabfffpknkpeaaDoorW.PrintWords Go.Proofs.YtaabfffpknkpeaaDoorW.PrintLast Go.Proofs.YtaabfffpknkpeaaDoorW.PrintMore
set_option linter.unusedVariables false
set_option linter.unusedSimpArgs false
attribute [local irreducible] encT sealT recT digs
theorem index_l0 (l : List Int) (v : Int) (hl : l.length ≤ 1099511627776) : ∀ (d i k : Nat), l.length - i = d → i ≤ l.length → d < k → ∃ r, slices_Index_int_int.l0 k l v (l.length : Int) (i : Int) = some r ∧ decide (r ≥ 0) = (l.drop i).contains v := by
  intro d
  induction d with
  | zero =>
    intro i k hd hi hk
    obtain ⟨k, rfl⟩ : ∃ m, k = m + 1 := ⟨k - 1, by omega⟩
    refine ⟨-1, ?_, ?_⟩
    · rw [slices_Index_int_int.l0, if_neg (by omega)]
    · rw [List.drop_of_length_le (by omega)]; rfl
  | succ d ih =>
    intro i k hd hi hk
    obtain ⟨k, rfl⟩ : ∃ m, k = m + 1 := ⟨k - 1, by omega⟩
    obtain ⟨r, h1, h2⟩ := ih (i + 1) k (by omega) (by omega) (by omega)
    have hdr : l.drop i = rd l (i : Int) :: l.drop (i + 1) := by
      rw [List.drop_eq_getElem_cons (by omega)]
      congr 1
      unfold rd
      rw [Int.toNat_natCast, List.getD_eq_getElem?_getD, List.getElem?_eq_getElem (by omega)]
      rfl
    rw [slices_Index_int_int.l0, if_pos (by omega), if_pos (by omega), if_pos (by omega)]
    by_cases h : v = rd l (i : Int)
    · refine ⟨(i : Int), ?_, ?_⟩
      · rw [if_pos h]
      · rw [hdr, h, List.contains_cons, decide_eq_true (by omega)]; simp
    · refine ⟨r, ?_, ?_⟩
      · rw [if_neg h, wrap_succ i (by omega)]; exact h1
      · rw [h2, hdr, List.contains_cons]
        have : (v == rd l (i : Int)) = false := by simpa using h
        rw [this, Bool.false_or]
theorem contains_int_f (l : List Int) (v : Int) (hl : l.length ≤ 1099511627776) (k : Nat) (hk : l.length < k) : slices_Contains_int_int.f k l v = some (l.contains v) := by
  obtain ⟨r, h1, h2⟩ := index_l0 l v hl l.length 0 k (by omega) (by omega) hk
  unfold slices_Contains_int_int.f slices_Index_int_int.f
  rw [show (0 : Int) = ((0 : Nat) : Int) from rfl, h1, Option.bind_some]
  rw [List.drop_zero] at h2
  rw [← h2]
  rfl
/-- A log is valid. -/
noncomputable def validB (d p : ByteArray) (c : Int) : Bool := decide (d.size + p.size ≤ 30000) && (decide (total 0 (recs 60 (d ++ p) 0) = d.size + p.size) && (decide (total 0 (recs 60 d 0) = d.size) && decide (((recs 60 (d ++ p) 0).length : Int) = c)))
theorem contains_ends (d p : ByteArray) : ((0 :: ends 0 0 (recs 60 (d ++ p) 0)).map natI).contains (d.size : Int) = decide (total 0 (recs 60 d 0) = d.size) := by
  have hp : BL d <+: BL (d ++ p) := by rw [BL_append]; exact List.prefix_append _ _
  have h := kept_iff 60 0 0 d (d ++ p) hp
  rw [Nat.zero_add] at h
  have h2 : ((0 :: ends 0 0 (recs 60 (d ++ p) 0)).map natI).contains (d.size : Int) = true ↔ d.size ∈ 0 :: ends 0 0 (recs 60 (d ++ p) 0) := by
    rw [List.contains_iff_mem, List.mem_map]
    constructor
    · rintro ⟨x, hx, hxe⟩
      have : x = d.size := by unfold natI at hxe; omega
      exact this ▸ hx
    · intro hx
      exact ⟨_, hx, rfl⟩
  rw [← h] at h2
  cases hb : ((0 :: ends 0 0 (recs 60 (d ++ p) 0)).map natI).contains (d.size : Int) with
  | true => rw [decide_eq_true (h2.1 hb)]
  | false =>
    rw [decide_eq_false]
    intro h3
    rw [h2.2 h3] at hb
    cases hb
theorem spec_valid_f (d p : ByteArray) (c : Int) (hd : d.size + p.size ≤ 1048576) (k : Nat) (hk : 250300 < k) : spec_l12Valid.f k d p c = some (validB d p c) := by
  unfold spec_l12Valid.f validB
  by_cases h0 : d.size + p.size ≤ 30000
  · have g1 : ¬ (((d.size + p.size : Nat) : Int) > 30000) := by omega
    have g2 : (d ++ p).size ≤ 100000 := by rw [ByteArray.size_append]; omega
    have g3 : d.size + p.size ≤ 9223372036854775807 := by omega
    rw [wrap_add d.size p.size (by omega), if_neg g1, if_pos g3, open_f (d ++ p) g2 k (by omega), Option.bind_some, open_f d (by omega) k (by omega), Option.bind_some, decide_eq_true h0, Bool.true_and]
    dsimp only
    by_cases h1 : total 0 (recs 60 (d ++ p) 0) = d.size + p.size
    · rw [if_pos (show ((total 0 (recs 60 (d ++ p) 0) : Nat) : Int) = ((d.size + p.size : Nat) : Int) from congrArg Int.ofNat h1), decide_eq_true h1, Bool.true_and]
      by_cases h2 : total 0 (recs 60 d 0) = d.size
      · rw [if_pos (show ((total 0 (recs 60 d 0) : Nat) : Int) = ((d.size : Nat) : Int) from congrArg Int.ofNat h2), decide_eq_true h2, Bool.true_and]
        congr 1
        rw [List.length_map]
        by_cases h3 : ((recs 60 (d ++ p) 0).length : Int) = c
        · rw [decide_eq_true h3]; simpa using h3
        · rw [decide_eq_false h3]; simpa using h3
      · rw [if_neg (show ¬ ((total 0 (recs 60 d 0) : Nat) : Int) = ((d.size : Nat) : Int) from fun h => h2 (Int.ofNat_inj.1 h)), decide_eq_false h2]; rfl
    · rw [if_neg (show ¬ ((total 0 (recs 60 (d ++ p) 0) : Nat) : Int) = ((d.size + p.size : Nat) : Int) from fun h => h1 (Int.ofNat_inj.1 h)), decide_eq_false h1]; rfl
  · have g1 : ((d.size + p.size : Nat) : Int) > 30000 := by omega
    rw [wrap_add d.size p.size (by omega), if_pos g1, decide_eq_false h0]
    rfl
theorem impl_valid_log_f (d p : ByteArray) (c : Int) (hd : d.size + p.size ≤ 1048576) (k : Nat) (hk : 250300 < k) : impl_IsValidLog.f k d p c = some (validB d p c) := by
  unfold impl_IsValidLog.f validB
  by_cases h0 : d.size + p.size ≤ 30000
  · have g1 : ¬ (((d.size + p.size : Nat) : Int) > 30000) := by omega
    have g2 : (d ++ p).size ≤ 100000 := by rw [ByteArray.size_append]; omega
    have g3 : d.size + p.size ≤ 9223372036854775807 := by omega
    have g4 := ends_long (d ++ p)
    have g5 : (((recs 60 (d ++ p) 0).map recS).length : Int) < (((0 :: ends 0 0 (recs 60 (d ++ p) 0)).map natI).length : Int) := by rw [g4.1, List.length_map]; omega
    have g6 : ((0 :: ends 0 0 (recs 60 (d ++ p) 0)).map natI).length ≤ 1099511627776 := by rw [g4.1]; omega
    have g7 : ((0 :: ends 0 0 (recs 60 (d ++ p) 0)).map natI).length < k := by rw [g4.1]; omega
    rw [wrap_add d.size p.size (by omega), if_neg g1, if_pos g3, recordsOf_f (d ++ p) g2 k (by omega), Option.bind_some, if_pos (Int.natCast_nonneg _), if_pos g5, ends_at, decide_eq_true h0, Bool.true_and]
    dsimp only
    by_cases h1 : total 0 (recs 60 (d ++ p) 0) = d.size + p.size
    · rw [if_pos (show ((total 0 (recs 60 (d ++ p) 0) : Nat) : Int) = ((d.size + p.size : Nat) : Int) from congrArg Int.ofNat h1), decide_eq_true h1, Bool.true_and, contains_int_f _ _ g6 k g7, contains_ends, Option.bind_some]
      by_cases h2 : total 0 (recs 60 d 0) = d.size
      · rw [decide_eq_true h2, if_pos rfl, Bool.true_and]
        congr 1
        rw [List.length_map]
        by_cases h3 : ((recs 60 (d ++ p) 0).length : Int) = c
        · rw [decide_eq_true h3]; simpa using h3.symm
        · rw [decide_eq_false h3]; simpa using fun h => h3 h.symm
      · rw [decide_eq_false h2, if_neg (by simp)]; rfl
    · rw [if_neg (show ¬ ((total 0 (recs 60 (d ++ p) 0) : Nat) : Int) = ((d.size + p.size : Nat) : Int) from fun h => h1 (Int.ofNat_inj.1 h)), decide_eq_false h1]; rfl
  · have g1 : ((d.size + p.size : Nat) : Int) > 30000 := by omega
    rw [wrap_add d.size p.size (by omega), if_pos g1, decide_eq_false h0]
    rfl
theorem valid_small {d p : ByteArray} {c : Int} (h : validB d p c = true) : d.size + p.size ≤ 30000 ∧ 0 ≤ c ∧ c ≤ 60 := by
  unfold validB at h
  simp only [Bool.and_eq_true, decide_eq_true_eq] at h
  have := recs_length 60 (d ++ p) 0
  omega
end Go.Proofs.YtaabfffpknkpeaaDoor.Q
