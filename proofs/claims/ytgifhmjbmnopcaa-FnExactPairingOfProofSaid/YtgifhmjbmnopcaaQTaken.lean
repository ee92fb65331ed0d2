import Derived.Test.YtgifhmjbmnopcaaQProof
/- Plain facts on the pairing that cuts leave: cuts one after the other against a stack. -/
namespace Go.Proofs.Ytgifhmjbmnopcaa.Q
open Go.RowKit Go.Proofs.Ytgifhmjbmnopcaa.Px Go.Proofs.Ytgifhmjbmnopcaa.Giv Go.Proofs.YtgifhmjbmnopcaaW.PrintWords Go.Proofs.YtgifhmjbmnopcaaW.PrintLast
set_option linter.unusedVariables false
set_option linter.unusedSimpArgs false
def irange (i d : Nat) : List Int := (List.range' i d).map (fun j : Nat => (j : Int))
theorem irange_succ (i d : Nat) : irange i (d + 1) = (i : Int) :: irange (i + 1) d := by simp [irange, List.range'_succ]
theorem irange_concat (d : Nat) : irange 0 (d + 1) = irange 0 d ++ [(d : Int)] := by simp [irange, List.range'_concat]
theorem irange_length (i d : Nat) : (irange i d).length = d := by simp [irange]
theorem irange_mem {i d : Nat} {x : Int} (h : x ∈ irange i d) : (i : Int) ≤ x ∧ x < (i : Int) + (d : Int) := by
  unfold irange at h
  rw [List.mem_map] at h
  obtain ⟨j, hj, rfl⟩ := h
  rw [List.mem_range'_1] at hj
  omega
def takenL : List Int → List Int → List Int → List Int
  | out, places, [] => out
  | out, places, i :: rest => takenL ((out.set (rd places i).toNat (rd places (i + 1))).set (rd places (i + 1)).toNat (rd places i)) (cutL places i.toNat) rest
def fitL : Nat → List Int → Prop
  | _, [] => True
  | n, i :: rest => 0 ≤ i ∧ i + 2 ≤ (n : Int) ∧ fitL (n - 2) rest
theorem fit_append : ∀ (a b : List Int) (n : Nat), fitL n a → fitL (n - 2 * a.length) b → fitL n (a ++ b)
  | [], b, n, _, h => by simpa using h
  | i :: a, b, n, h, hb => by
    refine ⟨h.1, h.2.1, fit_append a b (n - 2) h.2.2 ?_⟩
    have : n - 2 - 2 * a.length = n - 2 * (i :: a).length := by simp only [List.length_cons]; omega
    rw [this]; exact hb
theorem proof_fit : ∀ (l w : List Int), proofB w l = true → fitL w.length l
  | [], w, _ => trivial
  | i :: rest, w, h => by
    simp only [proofB] at h
    cases hc : isCutI w i with
    | false => rw [hc] at h; simp at h
    | true =>
      rw [hc, if_pos rfl] at h
      obtain ⟨j, rfl, h1, h2⟩ := isCutI_nat hc
      rw [Int.toNat_natCast] at h
      have := proof_fit rest _ h
      have hl := cutL_length w j h2
      refine ⟨by omega, by omega, ?_⟩
      rw [show w.length - 2 = (cutL w j).length from by omega]
      exact this
/-- The cuts, each the first one. -/
def greedy : Nat → List Int → List Int
  | 0, _ => []
  | n + 1, v => match cuts v with
    | [] => []
    | c :: _ => c :: greedy n (cutL v c.toNat)
theorem cuts_mem {v : List Int} {c : Int} (h : c ∈ cuts v) : ∃ j : Nat, c = (j : Int) ∧ isCutB v j = true ∧ j + 2 ≤ v.length := by
  unfold cuts cutsTo at h
  rw [List.mem_map] at h
  obtain ⟨j, hj, rfl⟩ := h
  rw [List.mem_filter] at hj
  exact ⟨j, rfl, hj.2, isCutB_bound hj.2⟩
theorem greedy_fit : ∀ (n : Nat) (v : List Int), fitL v.length (greedy n v)
  | 0, v => trivial
  | n + 1, v => by
    simp only [greedy]
    cases hc : cuts v with
    | nil => trivial
    | cons c t =>
      obtain ⟨j, rfl, h1, h2⟩ := cuts_mem (v := v) (c := c) (by rw [hc]; simp)
      have hl := cutL_length v j h2
      have := greedy_fit n (cutL v j)
      refine ⟨by omega, by omega, ?_⟩
      rw [Int.toNat_natCast, show v.length - 2 = (cutL v j).length from by omega]
      exact this
theorem cuts_none (v : List Int) (h : ∀ j, isCutB v j = false) : cuts v = [] := by
  have : ∀ i, cutsTo v i = [] := by
    intro i
    induction i with
    | zero => rfl
    | succ i ih => rw [cutsTo_succ, h i, if_neg (by simp), ih]
  exact this _
theorem cuts_first (v : List Int) (p : Nat) (hp : isCutB v p = true) (h : ∀ j, j < p → isCutB v j = false) : ∃ t, cuts v = (p : Int) :: t := by
  have h0 : ∀ i, i ≤ p → cutsTo v i = [] := by
    intro i
    induction i with
    | zero => intro _; rfl
    | succ i ih => intro hi; rw [cutsTo_succ, h i (by omega), if_neg (by simp), ih (by omega)]
  have h1 : ∀ m, ∃ t, cutsTo v (p + 1 + m) = (p : Int) :: t := by
    intro m
    induction m with
    | zero => exact ⟨[], by rw [Nat.add_zero, cutsTo_succ, hp, if_pos rfl, h0 p (Nat.le_refl _)]; rfl⟩
    | succ m ih =>
      obtain ⟨t, ht⟩ := ih
      rw [show p + 1 + (m + 1) = (p + 1 + m) + 1 from by omega, cutsTo_succ, ht]
      cases isCutB v (p + 1 + m) with
      | true => exact ⟨t ++ [((p + 1 + m : Nat) : Int)], by rw [if_pos rfl]; rfl⟩
      | false => exact ⟨t, by rw [if_neg (by simp)]⟩
  have := isCutB_bound hp
  obtain ⟨t, ht⟩ := h1 (v.length - (p + 1))
  exact ⟨t, by unfold cuts; rw [← ht]; congr 1; omega⟩
/-- The stack of open letters. -/
def stk (w : List Int) : Nat → Nat → List Int → List Int → List Int
  | 0, i, out, op => out
  | d + 1, i, out, op => if op ≠ [] ∧ rd w (rd op ((op.length - 1 : Nat) : Int)) = - rd w (i : Int)
      then stk w d (i + 1) ((out.set i (rd op ((op.length - 1 : Nat) : Int))).set (rd op ((op.length - 1 : Nat) : Int)).toNat (i : Int)) op.dropLast
      else stk w d (i + 1) out (op ++ [(i : Int)])
theorem rd_map (w l : List Int) (j : Nat) (h : j < l.length) : rd (l.map (rd w)) (j : Int) = rd w (rd l (j : Int)) := by
  rw [rd_get _ j (by rw [List.length_map]; exact h), rd_get l j h, List.getElem_map]
theorem rd_left (a b : List Int) (j : Nat) (h : j < a.length) : rd (a ++ b) (j : Int) = rd a (j : Int) := by
  rw [rd_get _ j (by rw [List.length_append]; omega), rd_get a j h, List.getElem_append_left h]
theorem rd_at (a : List Int) (x : Int) (b : List Int) : rd (a ++ x :: b) ((a.length : Nat) : Int) = x := by
  rw [rd_get _ a.length (by simp)]
  simp
theorem rd_at1 (a : List Int) (x y : Int) (b : List Int) : rd (a ++ x :: y :: b) ((a.length + 1 : Nat) : Int) = y := by
  rw [rd_get _ (a.length + 1) (by simp)]
  simp
theorem rd_at1' (a : List Int) (x y : Int) (b : List Int) : rd (a ++ x :: y :: b) ((a.length : Int) + 1) = y := by
  have := rd_at1 a x y b
  rw [show ((a.length + 1 : Nat) : Int) = (a.length : Int) + 1 from by omega] at this
  exact this
theorem rd_letter {w : List Int} (hb : wordB w = true) {x : Int} (h0 : 0 ≤ x) (h1 : x < (w.length : Int)) : rd w x ≠ 0 ∧ -6 ≤ rd w x ∧ rd w x ≤ 6 := by
  obtain ⟨j, rfl⟩ := Int.eq_ofNat_of_zero_le h0
  exact letter_range ((word_true w hb).2 _ (rd_mem w j (by omega)))
theorem isCutB_map {w : List Int} (hb : wordB w = true) (l : List Int) (hl : ∀ x ∈ l, 0 ≤ x ∧ x < (w.length : Int)) (j : Nat) : isCutB (l.map (rd w)) j = (decide (j + 1 < l.length) && (rd w (rd l (j : Int)) == - rd w (rd l ((j : Int) + 1)))) := by
  unfold isCutB
  rw [List.length_map]
  by_cases h : j + 1 < l.length
  · have e : ((j : Int) + 1) = ((j + 1 : Nat) : Int) := by omega
    have hm := hl _ (rd_mem l (j + 1) h)
    have hr := rd_letter hb hm.1 hm.2
    rw [rd_map w l j (by omega), e, rd_map w l (j + 1) h, wrap_id _ (by omega) (by omega)]
  · simp [h]
def red (w op : List Int) : Prop := ∀ j : Nat, j + 1 < op.length → rd w (rd op (j : Int)) ≠ - rd w (rd op ((j + 1 : Nat) : Int))
theorem cutL_mid (o : List Int) (a b : Int) (r : List Int) : cutL (o ++ a :: b :: r) o.length = o ++ r := by
  unfold cutL
  rw [List.take_left', List.drop_append]
  · simp
  · rfl
theorem cutL_map (f : Int → Int) (l : List Int) (i : Nat) : cutL (l.map f) i = (cutL l i).map f := by
  unfold cutL
  rw [List.map_append, List.map_take, List.map_drop]
theorem stk_greedy {w : List Int} (hb : wordB w = true) : ∀ (d i m : Nat) (op out : List Int), i + d = w.length → d ≤ m → (∀ x ∈ op, 0 ≤ x ∧ x < (i : Int)) → red w op →
    takenL out (op ++ irange i d) (greedy m ((op ++ irange i d).map (rd w))) = stk w d i out op := by
  intro d
  induction d with
  | zero =>
    intro i m op out hi hm hop hr
    have hc : cuts ((op ++ irange i 0).map (rd w)) = [] := by
      apply cuts_none
      intro j
      rw [isCutB_map hb _ (by intro x hx; simp [irange] at hx; have := hop x hx; omega)]
      simp only [irange, List.range'_zero, List.map_nil, List.append_nil]
      by_cases h : j + 1 < op.length
      · have := hr j h
        have e : ((j : Int) + 1) = ((j + 1 : Nat) : Int) := by omega
        rw [e, Bool.and_eq_false_iff]
        right
        rw [beq_eq_false_iff_ne]
        exact this
      · simp [h]
    have hg : greedy m ((op ++ irange i 0).map (rd w)) = [] := by
      cases m with
      | zero => rfl
      | succ m => simp only [greedy, hc]
    rw [hg]
    rfl
  | succ d ih =>
    intro i m op out hi hm hop hr
    have hall : ∀ x ∈ op ++ irange i (d + 1), 0 ≤ x ∧ x < (w.length : Int) := by
      intro x hx
      rw [List.mem_append] at hx
      rcases hx with hx | hx
      · have := hop x hx; omega
      · have := irange_mem hx; omega
    rw [irange_succ] at hall ⊢
    by_cases hc : op ≠ [] ∧ rd w (rd op ((op.length - 1 : Nat) : Int)) = - rd w (i : Int)
    · obtain ⟨m, rfl⟩ : ∃ q, m = q + 1 := ⟨m - 1, by omega⟩
      simp only [stk]
      rw [if_pos hc]
      rcases List.eq_nil_or_concat op with h0 | ⟨o, a, h0⟩
      · exact absurd h0 hc.1
      · rw [List.concat_eq_append] at h0
        subst h0
        have e1 : (o ++ [a]).length - 1 = o.length := by simp
        rw [e1, rd_at] at hc ⊢
        rw [List.dropLast_concat]
        have e2 : o ++ [a] ++ (i : Int) :: irange (i + 1) d = o ++ a :: (i : Int) :: irange (i + 1) d := by simp
        rw [e2] at hall ⊢
        have hp : isCutB ((o ++ a :: (i : Int) :: irange (i + 1) d).map (rd w)) o.length = true := by
          rw [isCutB_map hb _ hall, rd_at, rd_at1', hc.2]
          simp
        have hq : ∀ j, j < o.length → isCutB ((o ++ a :: (i : Int) :: irange (i + 1) d).map (rd w)) j = false := by
          intro j hj
          have e : ((j : Int) + 1) = ((j + 1 : Nat) : Int) := by omega
          rw [isCutB_map hb _ hall, e]
          have e3 : o ++ a :: (i : Int) :: irange (i + 1) d = (o ++ [a]) ++ (i : Int) :: irange (i + 1) d := by simp
          have := hr j (by simp; omega)
          rw [e3, rd_left (o ++ [a]) _ j (by simp; omega), rd_left (o ++ [a]) _ (j + 1) (by simp; omega), Bool.and_eq_false_iff]
          right
          rw [beq_eq_false_iff_ne]
          exact this
        obtain ⟨t, ht⟩ := cuts_first _ _ hp hq
        simp only [greedy, ht]
        rw [Int.toNat_natCast, cutL_map, cutL_mid]
        simp only [takenL]
        rw [Int.toNat_natCast, cutL_mid, rd_at, rd_at1', Int.toNat_natCast]
        have ha := hop a (by simp)
        have ih' := ih (i + 1) m o ((out.set i a).set a.toNat (i : Int)) (by omega) (by omega) (by intro x hx; have := hop x (by simp [hx]); omega)
          (by intro j hj; have := hr j (by simp; omega); rw [rd_left o _ j (by omega), rd_left o _ (j + 1) (by omega)] at this; exact this)
        rw [← ih', List.set_comm _ _ (by omega)]
    · simp only [stk]
      rw [if_neg hc]
      have e2 : op ++ (i : Int) :: irange (i + 1) d = (op ++ [(i : Int)]) ++ irange (i + 1) d := by simp
      rw [e2]
      refine ih (i + 1) m (op ++ [(i : Int)]) out (by omega) (by omega) ?_ ?_
      · intro x hx
        rw [List.mem_append] at hx
        rcases hx with hx | hx
        · have := hop x hx; omega
        · simp at hx; omega
      · intro j hj
        rw [List.length_append, List.length_singleton] at hj
        by_cases hj2 : j + 1 < op.length
        · rw [rd_left op _ j (by omega), rd_left op _ (j + 1) hj2]
          exact hr j hj2
        · have hne : op ≠ [] := by intro h; rw [h] at hj; simp at hj
          have hl : 0 < op.length := List.length_pos_iff.mpr hne
          have ej : j = op.length - 1 := by omega
          rw [rd_left op _ j (by omega), ej, show op.length - 1 + 1 = op.length from by omega, rd_at]
          intro h
          exact hc ⟨hne, h⟩
end Go.Proofs.Ytgifhmjbmnopcaa.Q
