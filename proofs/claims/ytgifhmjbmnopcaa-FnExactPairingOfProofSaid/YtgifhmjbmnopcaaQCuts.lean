import Derived.Test.YtgifhmjbmnopcaaQWord
import Derived.Test.YtgifhmjbmnopcaaPx1
import Derived.Test.YtgifhmjbmnopcaaPx2
import Derived.Test.YtgifhmjbmnopcaaPx2
/- Plain facts on cuts. -/
namespace Go.Proofs.Ytgifhmjbmnopcaa.Q
open Go.RowKit Go.Proofs.Ytgifhmjbmnopcaa.Px Go.Proofs.Ytgifhmjbmnopcaa.Giv Go.Proofs.YtgifhmjbmnopcaaW.PrintWords Go.Proofs.YtgifhmjbmnopcaaW.PrintLast
set_option linter.unusedVariables false
set_option linter.unusedSimpArgs false
def isCutB (w : List Int) (i : Nat) : Bool := decide (i + 1 < w.length) && (rd w (i : Int) == wrap64 (-(rd w ((i : Int) + 1))))
def cutsTo (w : List Int) (i : Nat) : List Int := ((List.range i).filter (isCutB w)).map (fun j : Nat => (j : Int))
def cuts (w : List Int) : List Int := cutsTo w w.length
theorem cutsTo_succ (w : List Int) (i : Nat) : cutsTo w (i + 1) = if isCutB w i = true then cutsTo w i ++ [(i : Int)] else cutsTo w i := by
  unfold cutsTo
  rw [List.range_succ, List.filter_append, List.map_append]
  by_cases h : isCutB w i = true <;> simp [h]
theorem cutsTo_length (w : List Int) (i : Nat) : (cutsTo w i).length ≤ i := by
  unfold cutsTo
  rw [List.length_map]
  exact Nat.le_trans (List.length_filter_le _ _) (Nat.le_of_eq List.length_range)
theorem isCut_f (w : List Int) (hl : w.length ≤ 35184372088832) (i : Nat) : impl_isCut.f w (i : Int) = some (isCutB w i) := by
  unfold impl_isCut.f isCutB
  rw [if_pos (by omega), wrap_id _ (by omega) (by omega)]
  by_cases h : i + 1 < w.length
  · rw [if_pos (by omega), if_pos (by omega), if_pos (by omega), wrap_id _ (by omega) (by omega), if_pos (by omega), if_pos (by omega)]
    simp [h]
  · rw [if_neg (by omega)]
    simp [h]
theorem isCut_neg (w : List Int) (i : Int) (h : i < 0) : impl_isCut.f w i = some false := by
  unfold impl_isCut.f
  rw [if_neg (by omega)]
theorem CutsOf_l0 (w : List Int) (hl : w.length ≤ 35184372088832) (hs : w.length < 17592186044416) : ∀ (d i k : Nat), w.length - i = d → i ≤ w.length → d < k → impl_CutsOf.l0 k w (cutsTo w i) (w.length : Int) (i : Int) = some (cuts w, true) := by
  intro d
  induction d with
  | zero =>
    intro i k hd hi hk
    obtain ⟨k, rfl⟩ : ∃ m, k = m + 1 := ⟨k - 1, by omega⟩
    simp only [impl_CutsOf.l0]
    rw [if_neg (by omega)]
    have : i = w.length := by omega
    rw [this]; rfl
  | succ d ih =>
    intro i k hd hi hk
    obtain ⟨k, rfl⟩ : ∃ m, k = m + 1 := ⟨k - 1, by omega⟩
    simp only [impl_CutsOf.l0]
    have e : ((i : Int) + 1) = ((i + 1 : Nat) : Int) := by omega
    have ih' := ih (i + 1) k (by omega) (by omega) (by omega)
    rw [if_pos (by omega), isCut_f w hl]
    simp only [Option.bind_some]
    rw [wrap_id _ (by omega) (by omega), e]
    rw [cutsTo_succ] at ih'
    have := cutsTo_length w i
    cases hb : isCutB w i with
    | true => rw [if_pos rfl, if_pos (by omega)]; rw [hb, if_pos rfl] at ih'; exact ih'
    | false => rw [if_neg (by simp)]; rw [hb, if_neg (by simp)] at ih'; exact ih'
theorem CutsOf_f (w : List Int) (k : Nat) (hk : w.length < k) (hs : w.length < 17592186044416) : impl_CutsOf.f k w = some (if wordB w = true then (cuts w, true) else ([], false)) := by
  unfold impl_CutsOf.f
  rw [isWord_f]
  simp only [Option.bind_some]
  cases hb : wordB w with
  | true => rw [if_pos rfl, if_pos rfl]; exact CutsOf_l0 w (by omega) hs w.length 0 k (by omega) (by omega) hk
  | false => rw [if_neg (by simp), if_neg (by simp)]
theorem isCutB_last (w : List Int) (i : Nat) (h : w.length ≤ i + 1) : isCutB w i = false := by
  unfold isCutB
  simp [show ¬ i + 1 < w.length by omega]
theorem cutsTo_end (w : List Int) (i : Nat) (h : w.length ≤ i + 1) (hi : i ≤ w.length) : cutsTo w i = cuts w := by
  unfold cuts
  by_cases he : i = w.length
  · rw [he]
  · have e : w.length = i + 1 := by omega
    rw [e, cutsTo_succ, isCutB_last w i h, if_neg (by simp)]
theorem l11Cuts_l0 (w : List Int) (hl : w.length < 17592186044416) : ∀ (d i k : Nat), w.length - i = d → i ≤ w.length → d < k → spec_l11Cuts.l0 k w (cutsTo w i) (i : Int) = some (cuts w) := by
  intro d
  induction d with
  | zero =>
    intro i k hd hi hk
    obtain ⟨k, rfl⟩ : ∃ m, k = m + 1 := ⟨k - 1, by omega⟩
    simp only [spec_l11Cuts.l0]
    rw [wrap_id _ (by omega) (by omega), if_neg (by omega), cutsTo_end w i (by omega) hi]
  | succ d ih =>
    intro i k hd hi hk
    obtain ⟨k, rfl⟩ : ∃ m, k = m + 1 := ⟨k - 1, by omega⟩
    simp only [spec_l11Cuts.l0]
    have e : ((i : Int) + 1) = ((i + 1 : Nat) : Int) := by omega
    have ih' := ih (i + 1) k (by omega) (by omega) (by omega)
    rw [wrap_id _ (by omega) (by omega)]
    by_cases hlt : (i : Int) + 1 < (w.length : Int)
    · rw [if_pos hlt, if_pos (by omega), if_pos (by omega), if_pos (by omega)]
      rw [cutsTo_succ] at ih'
      have := cutsTo_length w i
      by_cases hb : rd w (i : Int) = wrap64 (-(rd w ((i : Int) + 1)))
      · have hb' : isCutB w i = true := by unfold isCutB; simp [show i + 1 < w.length by omega]; exact hb
        rw [if_pos hb, if_pos (by omega), e]
        rw [hb', if_pos rfl] at ih'
        exact ih'
      · have hb' : isCutB w i = false := by unfold isCutB; simp [show i + 1 < w.length by omega]; exact hb
        rw [if_neg hb, e]
        rw [hb', if_neg (by simp)] at ih'
        exact ih'
    · rw [if_neg hlt, cutsTo_end w i (by omega) hi]
theorem l11Cuts_f (w : List Int) (k : Nat) (hk : w.length < k) (hs : w.length < 17592186044416) : spec_l11Cuts.f k w = some (cuts w) := by
  unfold spec_l11Cuts.f
  exact l11Cuts_l0 w hs w.length 0 k (by omega) (by omega) hk
theorem sCutsOf_f (w : List Int) (k : Nat) (hk : 2 * w.length + 2 < k) (hs : w.length < 17592186044416) : spec_CutsOf.f k w = some (if wordB w = true then (cuts w, true) else ([], false)) := by
  unfold spec_CutsOf.f
  rw [l2Word_f w (by omega) k hk]
  simp only [Option.bind_some]
  cases hb : wordB w with
  | true => rw [if_pos rfl, if_pos rfl, l11Cuts_f w k (by omega) hs]; rfl
  | false => rw [if_neg (by simp), if_neg (by simp)]
theorem CutsOf_agree (l0 : List Int) (hl : l0.length ≤ 1048576) : ∃ K r b, r.length ≤ 1099511627776 ∧ ∀ k, K ≤ k → spec_CutsOf.f k l0 = some (r, b) ∧ impl_CutsOf.f k l0 = some (r, b) := by
  refine ⟨2 * l0.length + 3, (if wordB l0 = true then (cuts l0, true) else ([], false)).1, (if wordB l0 = true then (cuts l0, true) else ([], false)).2, ?_, fun k hk => ⟨sCutsOf_f l0 k (by omega) (by omega), CutsOf_f l0 k (by omega) (by omega)⟩⟩
  split
  · have := cutsTo_length l0 l0.length
    show (cutsTo l0 l0.length).length ≤ _
    omega
  · simp
end Go.Proofs.Ytgifhmjbmnopcaa.Q
