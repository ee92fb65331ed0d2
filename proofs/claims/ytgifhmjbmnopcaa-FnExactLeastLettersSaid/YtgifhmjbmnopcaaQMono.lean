import Derived.Test.YtgifhmjbmnopcaaQTabs
/- A word that falls for a set falls for a greater one. -/
namespace Go.Proofs.Ytgifhmjbmnopcaa.Q
open Go.RowKit Go.Proofs.Ytgifhmjbmnopcaa.Px Go.Proofs.Ytgifhmjbmnopcaa.Giv Go.Proofs.YtgifhmjbmnopcaaW.PrintWords Go.Proofs.YtgifhmjbmnopcaaW.PrintLast
set_option linter.unusedVariables false
set_option linter.unusedSimpArgs false
/-- A stack, its top ahead, takes up a letter. -/
def pushR : List Int → Int → List Int
  | [], x => [x]
  | y :: s, x => if y = -x then s else x :: y :: s
theorem push_cons (y x : Int) (s : List Int) : pushR (y :: s) x = if y = -x then s else x :: y :: s := rfl
def RedS : List Int → Prop
  | [] => True
  | [_] => True
  | y :: z :: s => y ≠ -z ∧ RedS (z :: s)
theorem RedS.tail {y : Int} {s : List Int} (h : RedS (y :: s)) : RedS s := by
  cases s with
  | nil => trivial
  | cons z s => exact h.2
theorem push_red {s : List Int} (h : RedS s) (x : Int) : RedS (pushR s x) := by
  cases s with
  | nil => trivial
  | cons y s =>
    rw [push_cons]
    split
    · exact h.tail
    · rename_i hn
      exact ⟨by omega, h⟩
theorem push_inv {s : List Int} (h : RedS s) (x : Int) : pushR (pushR s (-x)) x = s := by
  cases s with
  | nil => simp [pushR]
  | cons y s =>
    by_cases hy : y = - -x
    · have : pushR (y :: s) (-x) = s := by rw [push_cons, if_pos hy]
      rw [this]
      cases s with
      | nil => rw [hy]; simp [pushR]
      | cons z s =>
        have hz := h.1
        rw [push_cons, if_neg (by omega), hy]
        simp
    · have : pushR (y :: s) (-x) = -x :: y :: s := by
        show (if y = - -x then s else -x :: y :: s) = _
        rw [if_neg hy]
      rw [this]
      show (if -x = -x then y :: s else x :: -x :: y :: s) = _
      rw [if_pos rfl]
def normR (r : List Int) : List Int := r.foldl pushR []
theorem fold_red : ∀ (r s : List Int), RedS s → RedS (r.foldl pushR s)
  | [], s, h => h
  | x :: r, s, h => fold_red r (pushR s x) (push_red h x)
theorem norm_filter (p : Int → Bool) (hp : ∀ x, p (-x) = p x) : ∀ (r s : List Int), (r.filter p).foldl pushR (normR (s.reverse.filter p)) = normR ((r.foldl pushR s).reverse.filter p) := by
  have hstep : ∀ (s : List Int) (x : Int), normR ((x :: s).reverse.filter p) = if p x = true then pushR (normR (s.reverse.filter p)) x else normR (s.reverse.filter p) := by
    intro s x
    rw [List.reverse_cons, List.filter_append]
    by_cases h : p x = true
    · rw [if_pos h, List.filter_cons_of_pos h, List.filter_nil]
      unfold normR
      rw [List.foldl_append]
      rfl
    · rw [if_neg h, List.filter_cons_of_neg (by simpa using h), List.filter_nil, List.append_nil]
  intro r
  induction r with
  | nil => intro s; rfl
  | cons x r ih =>
    intro s
    have key : (if p x = true then pushR (normR (s.reverse.filter p)) x else normR (s.reverse.filter p)) = normR ((pushR s x).reverse.filter p) := by
      cases s with
      | nil => exact (hstep [] x).symm
      | cons y s =>
        by_cases hy : y = -x
        · have e : pushR (y :: s) x = s := by rw [push_cons, if_pos hy]
          rw [e, hstep s y, hy, hp x]
          by_cases h : p x = true
          · rw [if_pos h, if_pos h]
            exact push_inv (fold_red _ [] trivial) x
          · rw [if_neg h, if_neg h]
        · have e : pushR (y :: s) x = x :: y :: s := by
            show (if y = -x then s else x :: y :: s) = _
            rw [if_neg hy]
          rw [e]
          exact (hstep (y :: s) x).symm
    rw [List.foldl_cons, ← ih (pushR s x), ← key]
    by_cases h : p x = true
    · rw [List.filter_cons_of_pos h, if_pos h, List.foldl_cons]
    · rw [List.filter_cons_of_neg (by simpa using h), if_neg h]
theorem redL_push : ∀ (r st : List Int), redL st r = (r.foldl pushR st.reverse).reverse := by
  intro r
  induction r with
  | nil => intro st; simp [redL]
  | cons x r ih =>
    intro st
    have e : (if st ≠ [] ∧ rd st ((st.length - 1 : Nat) : Int) = - x then st.dropLast else st ++ [x]).reverse = pushR st.reverse x := by
      rcases List.eq_nil_or_concat st with h | ⟨l, b, h⟩
      · subst h
        simp [pushR]
      · subst h
        have hr : rd (l.concat b) (((l.concat b).length - 1 : Nat) : Int) = b := by
          rw [rd_get _ _ (by simp)]
          simp
        rw [hr]
        by_cases hb : b = -x
        · rw [if_pos ⟨by simp, hb⟩]
          simp [pushR, hb]
        · rw [if_neg (by intro h; exact hb h.2)]
          simp [pushR, hb]
    simp only [redL]
    rw [List.foldl_cons, ← e]
    split
    · exact ih _
    · exact ih _
theorem redW_norm (w : List Int) : redW w = (normR w).reverse := by
  unfold redW normR
  rw [redL_push]
  rfl
set_option maxRecDepth 100000 in
theorem tak_or : ([1, 2, 3, 4, 5, 6].all fun (n : Nat) => (List.range 64).all fun s => lettersL.all fun y => takP (nextI (s : Int) (n : Int)) y == (takP (s : Int) y || decide (y = (n : Int) ∨ y = -(n : Int)))) = true := by decide +kernel
theorem fall_mono {w : List Int} (hb : wordB w = true) {s n : Int} (hs : setB s = true) (h1 : 1 ≤ n) (h2 : n ≤ 6) (h : fallT w s = true) : fallT w (nextI s n) = true := by
  have hw := word_true w hb
  have hs1 := of_decide_eq_true hs
  obtain ⟨a, rfl⟩ := Int.eq_ofNat_of_zero_le hs1.1
  obtain ⟨m, rfl⟩ := Int.eq_ofNat_of_zero_le (show 0 ≤ n by omega)
  have hm : m ∈ [1, 2, 3, 4, 5, 6] := by
    have : m = 1 ∨ m = 2 ∨ m = 3 ∨ m = 4 ∨ m = 5 ∨ m = 6 := by omega
    simpa using this
  have ht : ∀ y ∈ lettersL, takP (nextI (a : Int) (m : Int)) y = (takP (a : Int) y || decide (y = (m : Int) ∨ y = -(m : Int))) := fun y hy =>
    eq_of_beq (List.all_eq_true.1 (List.all_eq_true.1 (List.all_eq_true.1 tak_or m hm) a (List.mem_range.2 (by omega))) y hy)
  have hl : leftL (nextI (a : Int) (m : Int)) w = (leftL (a : Int) w).filter fun y => !decide (y = (m : Int) ∨ y = -(m : Int)) := by
    unfold leftL
    rw [List.filter_filter]
    apply List.filter_congr
    intro y hy
    rw [ht y (letter_mem (hw.2 y hy))]
    cases takP (a : Int) y <;> simp
  unfold fallT takW at h ⊢
  rw [redW_norm] at h ⊢
  rw [hl]
  have hn : normR (leftL (a : Int) w) = [] := by simpa using h
  have := norm_filter (fun y => !decide (y = (m : Int) ∨ y = -(m : Int))) (fun y => by
    congr 1
    apply decide_eq_decide.2
    omega) (leftL (a : Int) w) []
  have h0 : (leftL (a : Int) w).foldl pushR [] = [] := hn
  rw [h0] at this
  have e0 : normR ((([] : List Int).reverse).filter fun y => !decide (y = (m : Int) ∨ y = -(m : Int))) = [] := rfl
  rw [e0] at this
  unfold normR
  rw [this]
  rfl
end Go.Proofs.Ytgifhmjbmnopcaa.Q
