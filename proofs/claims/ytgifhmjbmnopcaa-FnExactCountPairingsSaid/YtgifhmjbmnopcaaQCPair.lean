import Derived.Test.YtgifhmjbmnopcaaPx30
import Derived.Test.YtgifhmjbmnopcaaPx29
import Derived.Test.YtgifhmjbmnopcaaPx28
import Derived.Test.YtgifhmjbmnopcaaQWord
/- Plain facts on the number of full pairings: two tables, filled in different orders, of the same numbers. -/
namespace Go.Proofs.Ytgifhmjbmnopcaa.Q
open Go.RowKit Go.Proofs.Ytgifhmjbmnopcaa.Px Go.Proofs.Ytgifhmjbmnopcaa.Giv Go.Proofs.YtgifhmjbmnopcaaW.PrintWords Go.Proofs.YtgifhmjbmnopcaaW.PrintLast
set_option linter.unusedVariables false
set_option linter.unusedSimpArgs false
theorem wp (x : Int) (y : Nat) (h : x = (y : Int)) (hy : y ≤ 1000) : wrap64 x = (y : Int) := by rw [h]; exact wrap_id _ (by omega) (by omega)
def sumTo (Q : Nat → Nat → Int) (w : List Int) (i k : Nat) : Nat → Int
  | 0 => 0
  | c + 1 => if rd w ((i + (2 * c + 1) : Nat) : Int) = - rd w (i : Int) then wrap64 (sumTo Q w i k c + wrap64 (Q (i + 1) (2 * c) * Q (i + 2 * c + 2) (k - 2 * c - 2))) else sumTo Q w i k c
def fp (w : List Int) : Nat → Nat → Nat → Int
  | 0 => fun _ k => if k = 0 then 1 else 0
  | f + 1 => fun i k => if k = 0 then 1 else sumTo (fp w f) w i k (k / 2)
theorem sumTo_congr (Q Q' : Nat → Nat → Int) (w : List Int) (i k : Nat) : ∀ c, (∀ i' k', k' < k → Q i' k' = Q' i' k') → 2 * c ≤ k → sumTo Q w i k c = sumTo Q' w i k c
  | 0, _, _ => rfl
  | c + 1, h, hc => by
    simp only [sumTo]
    rw [sumTo_congr Q Q' w i k c h (by omega), h (i + 1) (2 * c) (by omega), h (i + 2 * c + 2) (k - 2 * c - 2) (by omega)]
theorem fp_fuel (w : List Int) : ∀ (k f f' i : Nat), k ≤ f → k ≤ f' → fp w f i k = fp w f' i k := by
  intro k
  induction k using Nat.strongRecOn with
  | _ k ih =>
    intro f f' i hf hf'
    by_cases h0 : k = 0
    · subst h0
      cases f <;> cases f' <;> simp [fp]
    · obtain ⟨a, rfl⟩ : ∃ a, f = a + 1 := ⟨f - 1, by omega⟩
      obtain ⟨b, rfl⟩ : ∃ b, f' = b + 1 := ⟨f' - 1, by omega⟩
      simp only [fp]
      rw [if_neg h0, if_neg h0]
      exact sumTo_congr _ _ w i k (k / 2) (fun i' k' hk => ih k' hk a b i' (by omega) (by omega)) (by omega)
/-- The number of full pairings of so many letters from a place on. -/
def fpN (w : List Int) (i k : Nat) : Int := fp w k i k
theorem fpN_zero (w : List Int) (i : Nat) : fpN w i 0 = 1 := by simp [fpN, fp]
theorem fpN_sum (w : List Int) (i k : Nat) (h : 0 < k) : fpN w i k = sumTo (fpN w) w i k (k / 2) := by
  obtain ⟨a, rfl⟩ : ∃ a, k = a + 1 := ⟨k - 1, by omega⟩
  unfold fpN
  simp only [fp]
  rw [if_neg (by omega)]
  exact sumTo_congr _ _ w i (a + 1) _ (fun i' k' hk => fp_fuel w k' a k' i' (by omega) (by omega)) (by omega)
theorem sumTo_odd (Q : Nat → Nat → Int) (w : List Int) (i k : Nat) (hk : k % 2 = 1) (h : ∀ i' k', k' < k → k' % 2 = 1 → Q i' k' = 0) : ∀ c, 2 * c < k → sumTo Q w i k c = 0
  | 0, _ => rfl
  | c + 1, hc => by
    simp only [sumTo]
    rw [sumTo_odd Q w i k hk h c (by omega), h (i + 2 * c + 2) (k - 2 * c - 2) (by omega) (by omega)]
    split
    · rw [Int.mul_zero]; unfold wrap64; omega
    · rfl
theorem fpN_odd (w : List Int) : ∀ (k i : Nat), k % 2 = 1 → fpN w i k = 0 := by
  intro k
  induction k using Nat.strongRecOn with
  | _ k ih =>
    intro i hk
    rw [fpN_sum w i k (by omega)]
    exact sumTo_odd _ w i k hk (fun i' k' h1 h2 => ih k' h1 i' h2) (k / 2) (by omega)
theorem rdL_set (T : List (List Int)) (i i' : Nat) (row : List Int) (h : i < T.length) : rd_L1 (T.set i row) (i' : Int) = if i' = i then row else rd_L1 T (i' : Int) := by
  unfold rd_L1
  rw [Int.toNat_natCast, List.getD_eq_getElem?_getD, List.getD_eq_getElem?_getD, List.getElem?_set]
  by_cases e : i = i'
  · subst e; rw [if_pos rfl, if_pos h, if_pos rfl]; rfl
  · rw [if_neg e, if_neg (fun h => e h.symm)]
theorem rd_set (l : List Int) (j j' : Nat) (v : Int) (h : j < l.length) : rd (l.set j v) (j' : Int) = if j' = j then v else rd l (j' : Int) := by
  unfold rd
  rw [Int.toNat_natCast, List.getD_eq_getElem?_getD, List.getD_eq_getElem?_getD, List.getElem?_set]
  by_cases e : j = j'
  · subst e; rw [if_pos rfl, if_pos h, if_pos rfl]; rfl
  · rw [if_neg e, if_neg (fun h => e h.symm)]
def putG (g : Nat → Nat → Int) (i k : Nat) (v : Int) : Nat → Nat → Int := fun i' k' => if i' = i ∧ k' = k then v else g i' k'
/-- A table holds numbers, by place and count. -/
def Tab1 (n : Nat) (T : List (List Int)) (g : Nat → Nat → Int) : Prop := T.length = n + 1 ∧ (∀ i : Nat, i ≤ n → (rd_L1 T (i : Int)).length = n + 1) ∧ ∀ i j : Nat, i + j ≤ n → rd (rd_L1 T (i : Int)) (j : Int) = g i j
theorem Tab1.put {n : Nat} {T : List (List Int)} {g : Nat → Nat → Int} (h : Tab1 n T g) (i j : Nat) (v : Int) (hi : i ≤ n) (hj : j ≤ n) : Tab1 n (T.set i ((rd_L1 T (i : Int)).set j v)) (putG g i j v) := by
  obtain ⟨h1, h2, h3⟩ := h
  refine ⟨by rw [List.length_set]; exact h1, fun i' hi' => ?_, fun i' j' hij => ?_⟩
  · rw [rdL_set T i i' _ (by omega)]
    split
    · rw [List.length_set]; exact h2 i hi
    · exact h2 i' hi'
  · rw [rdL_set T i i' _ (by omega)]
    unfold putG
    by_cases e : i' = i
    · subst e
      rw [if_pos rfl, rd_set _ j j' v (by rw [h2 i' hi]; omega)]
      by_cases e2 : j' = j
      · rw [if_pos e2, if_pos ⟨rfl, e2⟩]
      · rw [if_neg e2, if_neg (fun h => e2 h.2), h3 i' j' hij]
    · rw [if_neg e, if_neg (fun h => e h.1), h3 i' j' hij]
theorem Tab1.congr {n : Nat} {T : List (List Int)} {g g' : Nat → Nat → Int} (h : Tab1 n T g) (e : ∀ i j, i + j ≤ n → g i j = g' i j) : Tab1 n T g' :=
  ⟨h.1, h.2.1, fun i j hij => by rw [h.2.2 i j hij, e i j hij]⟩
theorem putG_putG (g : Nat → Nat → Int) (i k : Nat) (v v' : Int) (a b : Nat) : putG (putG g i k v) i k v' a b = putG g i k v' a b := by
  unfold putG
  split
  · rfl
  · rfl
theorem neg_l {w : List Int} (hb : wordB w = true) (i : Nat) (hi : i < w.length) : wrap64 (-(rd w (i : Int))) = - rd w (i : Int) := by
  have h := letter_range ((word_true w hb).2 _ (rd_mem w i hi))
  exact wrap_id _ (by omega) (by omega)
theorem s_l3 {w : List Int} (hb : wordB w = true) (hn : w.length ≤ 20) (q i : Nat) (hq : 1 ≤ q) (hiq : i + 2 * q ≤ w.length) (g : Nat → Nat → Int) (hg : ∀ i' k', i' + k' ≤ w.length → k' < 2 * q → g i' k' = fpN w i' k') (r : Option Int) (K0 : Nat)
    (hr : ∀ k T, K0 < k → Tab1 w.length T (putG g i (2 * q) (fpN w i (2 * q))) → spec_l11Count.l2 k w (w.length : Int) T ((2 * q : Nat) : Int) ((i + 1 : Nat) : Int) = r) :
    ∀ (d c k : Nat) (T : List (List Int)), q - c = d → c ≤ q → K0 + d + 1 < k → Tab1 w.length T (putG g i (2 * q) (sumTo (fpN w) w i (2 * q) c)) → spec_l11Count.l3 k w (w.length : Int) T ((2 * q : Nat) : Int) (i : Int) ((2 * c + 1 : Nat) : Int) = r := by
  intro d
  induction d with
  | zero =>
    intro c k T hd hc hk hT
    obtain ⟨k, rfl⟩ : ∃ m, k = m + 1 := ⟨k - 1, by omega⟩
    have ecq : c = q := by omega
    subst ecq
    rw [spec_l11Count.l3, if_neg (by omega), wp ((i : Int) + 1) (i + 1) (by omega) (by omega)]
    refine hr k T (by omega) ?_
    have : fpN w i (2 * c) = sumTo (fpN w) w i (2 * c) c := by
      rw [fpN_sum w i (2 * c) (by omega), show 2 * c / 2 = c from by omega]
    rw [this]
    exact hT
  | succ d ih =>
    intro c k T hd hc hk hT
    obtain ⟨k, rfl⟩ : ∃ m, k = m + 1 := ⟨k - 1, by omega⟩
    obtain ⟨h1, h2, h3⟩ := hT
    have hne : ∀ a b : Nat, b < 2 * q → a + b ≤ w.length → rd (rd_L1 T (a : Int)) (b : Int) = fpN w a b := by
      intro a b hb2 hab
      rw [h3 a b hab]
      unfold putG
      rw [if_neg (by omega), hg a b hab hb2]
    rw [spec_l11Count.l3, if_pos (by omega), wp ((i : Int) + ((2 * c + 1 : Nat) : Int)) (i + (2 * c + 1)) (by omega) (by omega), if_pos (by omega), if_pos (by omega), if_pos (by omega), if_pos (by omega), neg_l hb i (by omega), wp (((2 * c + 1 : Nat) : Int) + 2) (2 * (c + 1) + 1) (by omega) (by omega)]
    by_cases hl : rd w ((i + (2 * c + 1) : Nat) : Int) = - rd w (i : Int)
    · rw [if_pos hl, if_pos (by omega), if_pos (by omega), if_pos (by rw [h2 i (by omega)]; omega), wp ((i : Int) + 1) (i + 1) (by omega) (by omega), if_pos (by omega), if_pos (by omega), wp (((2 * c + 1 : Nat) : Int) - 1) (2 * c) (by omega) (by omega), if_pos (by omega), if_pos (by rw [h2 (i + 1) (by omega)]; omega), wp (((i + (2 * c + 1) : Nat) : Int) + 1) (i + 2 * c + 2) (by omega) (by omega), if_pos (by omega), if_pos (by omega), wp (((2 * q : Nat) : Int) - ((2 * c + 1 : Nat) : Int)) (2 * q - (2 * c + 1)) (by omega) (by omega), wp (((2 * q - (2 * c + 1) : Nat) : Int) - 1) (2 * q - 2 * c - 2) (by omega) (by omega), if_pos (by omega), if_pos (by rw [h2 (i + 2 * c + 2) (by omega)]; omega)]
      rw [hne (i + 1) (2 * c) (by omega) (by omega), hne (i + 2 * c + 2) (2 * q - 2 * c - 2) (by omega) (by omega), h3 i (2 * q) (by omega)]
      refine ih (c + 1) k _ (by omega) (by omega) (by omega) ?_
      rw [Int.toNat_natCast, Int.toNat_natCast]
      refine (Tab1.put ⟨h1, h2, h3⟩ i (2 * q) _ (by omega) (by omega)).congr (fun a b hab => ?_)
      rw [putG_putG]
      have es : sumTo (fpN w) w i (2 * q) (c + 1) = wrap64 (sumTo (fpN w) w i (2 * q) c + wrap64 (fpN w (i + 1) (2 * c) * fpN w (i + 2 * c + 2) (2 * q - 2 * c - 2))) := by
        simp only [sumTo]
        rw [if_pos hl]
      have ep : putG g i (2 * q) (sumTo (fpN w) w i (2 * q) c) i (2 * q) = sumTo (fpN w) w i (2 * q) c := by unfold putG; rw [if_pos ⟨rfl, rfl⟩]
      rw [es, ep]
    · rw [if_neg hl]
      refine ih (c + 1) k T (by omega) (by omega) (by omega) ?_
      have es : sumTo (fpN w) w i (2 * q) (c + 1) = sumTo (fpN w) w i (2 * q) c := by
        simp only [sumTo]
        rw [if_neg hl]
      rw [es]
      exact ⟨h1, h2, h3⟩
/-- What the table holds by counts. -/
def gS (w : List Int) (q i : Nat) : Nat → Nat → Int := fun i' k' => if k' < 2 * q ∨ (k' = 2 * q ∧ i' < i) ∨ k' % 2 = 1 then fpN w i' k' else 0
theorem s_l2 {w : List Int} (hb : wordB w = true) (hn : w.length ≤ 20) (q : Nat) (hq : 1 ≤ q) (hqn : 2 * q ≤ w.length) (r : Option Int) (K0 : Nat)
    (hr : ∀ k T, K0 < k → Tab1 w.length T (gS w (q + 1) 0) → spec_l11Count.l1 k w (w.length : Int) T ((2 * (q + 1) : Nat) : Int) = r) :
    ∀ (d i k : Nat) (T : List (List Int)), w.length + 1 - 2 * q - i = d → i + 2 * q ≤ w.length + 1 → K0 + d * (q + 3) + 2 < k → Tab1 w.length T (gS w q i) → spec_l11Count.l2 k w (w.length : Int) T ((2 * q : Nat) : Int) (i : Int) = r := by
  intro d
  induction d with
  | zero =>
    intro i k T hd hi hk hT
    obtain ⟨k, rfl⟩ : ∃ m, k = m + 1 := ⟨k - 1, by omega⟩
    rw [spec_l11Count.l2, wp ((i : Int) + ((2 * q : Nat) : Int)) (i + 2 * q) (by omega) (by omega), if_neg (by omega), wp (((2 * q : Nat) : Int) + 2) (2 * (q + 1)) (by omega) (by omega)]
    refine hr k T (by omega) (hT.congr (fun a b hab => ?_))
    unfold gS
    by_cases h1 : b % 2 = 1
    · rw [if_pos (Or.inr (Or.inr h1)), if_pos (Or.inr (Or.inr h1))]
    · by_cases h2 : b ≤ 2 * q
      · rw [if_pos (by omega), if_pos (by omega)]
      · rw [if_neg (by omega), if_neg (by omega)]
  | succ d ih =>
    intro i k T hd hi hk hT
    obtain ⟨k, rfl⟩ : ∃ m, k = m + 1 := ⟨k - 1, by omega⟩
    rw [Nat.succ_mul] at hk
    rw [spec_l11Count.l2, wp ((i : Int) + ((2 * q : Nat) : Int)) (i + 2 * q) (by omega) (by omega), if_pos (by omega)]
    refine s_l3 hb hn q i hq (by omega) (gS w q i) (fun i' k' _ hk' => by unfold gS; rw [if_pos (Or.inl hk')]) r (K0 + d * (q + 3) + 2) ?_ q 0 k T (by omega) (by omega) (by omega) (hT.congr (fun a b hab => ?_))
    · intro k T hk hT
      refine ih (i + 1) k T (by omega) (by omega) hk (hT.congr (fun a b hab => ?_))
      unfold gS putG
      by_cases h1 : a = i ∧ b = 2 * q
      · rw [if_pos h1, if_pos (by omega), h1.1, h1.2]
      · rw [if_neg h1]
        show (if b < 2 * q ∨ (b = 2 * q ∧ a < i) ∨ b % 2 = 1 then fpN w a b else 0) = _
        by_cases h2 : b < 2 * q ∨ (b = 2 * q ∧ a < i) ∨ b % 2 = 1
        · rw [if_pos h2, if_pos (by omega)]
        · rw [if_neg h2, if_neg (by omega)]
    · unfold putG
      by_cases h1 : a = i ∧ b = 2 * q
      · rw [if_pos h1]
        unfold gS
        rw [if_neg (by omega)]
        rfl
      · rw [if_neg h1]
theorem s_l1 {w : List Int} (hb : wordB w = true) (hn : w.length ≤ 20) : ∀ (d q k : Nat) (T : List (List Int)), w.length + 2 - 2 * q ≤ d → 1 ≤ q → d * 1000 + 10 < k → Tab1 w.length T (gS w q 0) → spec_l11Count.l1 k w (w.length : Int) T ((2 * q : Nat) : Int) = some (fpN w 0 w.length) := by
  intro d
  induction d with
  | zero =>
    intro q k T hd hq hk hT
    obtain ⟨k, rfl⟩ : ∃ m, k = m + 1 := ⟨k - 1, by omega⟩
    obtain ⟨h1, h2, h3⟩ := hT
    have e0 : (rd_L1 T 0) = rd_L1 T ((0 : Nat) : Int) := rfl
    rw [spec_l11Count.l1, if_neg (by omega), if_pos (by omega), if_pos (by omega), e0, if_pos (by rw [h2 0 (by omega)]; omega), h3 0 w.length (by omega)]
    unfold gS
    rw [if_pos (by omega)]
  | succ d ih =>
    intro q k T hd hq hk hT
    obtain ⟨k, rfl⟩ : ∃ m, k = m + 1 := ⟨k - 1, by omega⟩
    by_cases hqn : 2 * q ≤ w.length
    · rw [spec_l11Count.l1, if_pos (by omega)]
      have h0 := s_l2 hb hn q hq hqn (some (fpN w 0 w.length)) (d * 1000 + 10) (fun k T hk hT => ih (q + 1) k T (by omega) (by omega) hk hT) (w.length + 1 - 2 * q) 0 k T (by omega) (by omega) (by
        have : (w.length + 1 - 2 * q) * (q + 3) ≤ 21 * 23 := Nat.mul_le_mul (by omega) (by omega)
        omega) hT
      exact h0
    · obtain ⟨h1, h2, h3⟩ := hT
      have e0 : (rd_L1 T 0) = rd_L1 T ((0 : Nat) : Int) := rfl
      rw [spec_l11Count.l1, if_neg (by omega), if_pos (by omega), if_pos (by omega), e0, if_pos (by rw [h2 0 (by omega)]; omega), h3 0 w.length (by omega)]
      unfold gS
      rw [if_pos (by omega)]
def row1 (n : Nat) : List Int := (List.replicate (n + 1) (0 : Int)).set 0 1
theorem rep_get (n m : Nat) (row : List Int) (i : Nat) (h : i < m) : rd_L1 (List.replicate m row) (i : Int) = row := by
  unfold rd_L1
  rw [Int.toNat_natCast, List.getD_eq_getElem?_getD, List.getElem?_replicate, if_pos h]; rfl
theorem row1_get (n j : Nat) (h : j ≤ n) : rd (row1 n) (j : Int) = if j = 0 then 1 else 0 := by
  unfold row1
  rw [rd_set _ 0 j 1 (by simp)]
  split
  · rfl
  · unfold rd
    rw [Int.toNat_natCast, List.getD_eq_getElem?_getD, List.getElem?_replicate, if_pos (by omega)]; rfl
theorem s_l0 {w : List Int} (hb : wordB w = true) (hn : w.length ≤ 20) : ∀ (d i k : Nat), w.length + 1 - i = d → i ≤ w.length + 1 → d + 30000 < k → spec_l11Count.l0 k w (w.length : Int) (List.replicate i (row1 w.length)) (i : Int) = some (fpN w 0 w.length) := by
  intro d
  induction d with
  | zero =>
    intro i k hd hi hk
    obtain ⟨k, rfl⟩ : ∃ m, k = m + 1 := ⟨k - 1, by omega⟩
    rw [spec_l11Count.l0, if_neg (by omega)]
    refine s_l1 hb hn (w.length + 2 - 2) 1 k _ (by omega) (by omega) (by omega) ⟨by rw [List.length_replicate]; omega, fun a ha => ?_, fun a b hab => ?_⟩
    · rw [rep_get w.length i _ a (by omega)]; simp [row1]
    · rw [rep_get w.length i _ a (by omega), row1_get w.length b (by omega)]
      unfold gS
      by_cases h0 : b = 0
      · rw [if_pos h0, if_pos (by omega), h0, fpN_zero]
      · rw [if_neg h0]
        by_cases h1 : b % 2 = 1
        · rw [if_pos (Or.inr (Or.inr h1)), fpN_odd w b a h1]
        · rw [if_neg (by omega)]
  | succ d ih =>
    intro i k hd hi hk
    obtain ⟨k, rfl⟩ : ∃ m, k = m + 1 := ⟨k - 1, by omega⟩
    have hget : rd_L1 (List.replicate i (row1 w.length) ++ [List.replicate (w.length + 1) (0 : Int)]) (i : Int) = List.replicate (w.length + 1) (0 : Int) := by
      unfold rd_L1
      rw [Int.toNat_natCast, List.getD_eq_getElem?_getD, List.getElem?_append_right (by simp)]
      simp
    rw [spec_l11Count.l0, if_pos (by omega), wp ((w.length : Int) + 1) (w.length + 1) (by omega) (by omega), if_pos (by omega), if_pos (by omega), if_pos (by rw [List.length_replicate]; omega), Option.bind_some, Int.toNat_natCast, if_pos (by omega), if_pos (by rw [List.length_append, List.length_replicate, List.length_singleton]; omega), hget, if_pos (by simp), wp ((i : Int) + 1) (i + 1) (by omega) (by omega), Int.toNat_natCast]
    have hset : (List.replicate i (row1 w.length) ++ [List.replicate (w.length + 1) (0 : Int)]).set i ((List.replicate (w.length + 1) (0 : Int)).set (0 : Int).toNat 1) = List.replicate (i + 1) (row1 w.length) := by
      rw [List.set_append_right _ _ (by simp), List.length_replicate, Nat.sub_self, show List.replicate (i + 1) (row1 w.length) = List.replicate i (row1 w.length) ++ [row1 w.length] from List.replicate_succ']
      rfl
    rw [hset]
    exact ih (i + 1) k (by omega) (by omega) (by omega)
theorem l11Count_f {w : List Int} (hb : wordB w = true) (hn : w.length ≤ 20) (k : Nat) (hk : 40000 < k) : spec_l11Count.f k w = some (fpN w 0 w.length) := by
  unfold spec_l11Count.f
  exact s_l0 hb hn (w.length + 1) 0 k (by omega) (by omega) (by omega)
/-- A table holds numbers, by the first place and the place behind, from a row on. -/
def Tab2 (n a : Nat) (T : List (List Int)) (g : Nat → Nat → Int) : Prop := T.length = n + 1 ∧ (∀ i : Nat, a ≤ i → i ≤ n → (rd_L1 T (i : Int)).length = n + 1) ∧ ∀ i j : Nat, a ≤ i → i ≤ j → j ≤ n → rd (rd_L1 T (i : Int)) (j : Int) = g i j
theorem Tab2.put {n a : Nat} {T : List (List Int)} {g : Nat → Nat → Int} (h : Tab2 n a T g) (i j : Nat) (v : Int) (ha : a ≤ i) (hi : i ≤ n) (hj : j ≤ n) : Tab2 n a (T.set i ((rd_L1 T (i : Int)).set j v)) (putG g i j v) := by
  obtain ⟨h1, h2, h3⟩ := h
  refine ⟨by rw [List.length_set]; exact h1, fun i' ha' hi' => ?_, fun i' j' ha' hij hj' => ?_⟩
  · rw [rdL_set T i i' _ (by omega)]
    split
    · rw [List.length_set]; exact h2 i ha hi
    · exact h2 i' ha' hi'
  · rw [rdL_set T i i' _ (by omega)]
    unfold putG
    by_cases e : i' = i
    · subst e
      rw [if_pos rfl, rd_set _ j j' v (by rw [h2 i' ha hi]; omega)]
      by_cases e2 : j' = j
      · rw [if_pos e2, if_pos ⟨rfl, e2⟩]
      · rw [if_neg e2, if_neg (fun h => e2 h.2), h3 i' j' ha' hij hj']
    · rw [if_neg e, if_neg (fun h => e h.1), h3 i' j' ha' hij hj']
theorem Tab2.congr {n a : Nat} {T : List (List Int)} {g g' : Nat → Nat → Int} (h : Tab2 n a T g) (e : ∀ i j, a ≤ i → i ≤ j → j ≤ n → g i j = g' i j) : Tab2 n a T g' :=
  ⟨h.1, h.2.1, fun i j ha hij hj => by rw [h.2.2 i j ha hij hj, e i j ha hij hj]⟩
theorem i_l2 {w : List Int} (hb : wordB w = true) (hn : w.length ≤ 20) (q a : Nat) (hq : 1 ≤ q) (haq : a + 2 * q ≤ w.length) (g : Nat → Nat → Int) (hg : ∀ i j, a ≤ i → i ≤ j → j ≤ w.length → a < i → g i j = fpN w i (j - i)) (r : Option (Int × Bool)) (K0 : Nat)
    (hr : ∀ k T, K0 < k → Tab2 w.length a T (putG g a (a + 2 * q) (fpN w a (2 * q))) → impl_CountPairings.l1 k w (w.length : Int) T (a : Int) ((a + 2 * (q + 1) : Nat) : Int) = r) :
    ∀ (d c k : Nat) (T : List (List Int)), q - c = d → c ≤ q → K0 + d + 1 < k → Tab2 w.length a T (putG g a (a + 2 * q) (sumTo (fpN w) w a (2 * q) c)) → impl_CountPairings.l2 k w (w.length : Int) T (a : Int) ((a + 2 * q : Nat) : Int) ((a + 2 * c + 1 : Nat) : Int) = r := by
  intro d
  induction d with
  | zero =>
    intro c k T hd hc hk hT
    obtain ⟨k, rfl⟩ : ∃ m, k = m + 1 := ⟨k - 1, by omega⟩
    have ecq : c = q := by omega
    subst ecq
    rw [impl_CountPairings.l2, if_neg (by omega), wp (((a + 2 * c : Nat) : Int) + 2) (a + 2 * (c + 1)) (by omega) (by omega)]
    refine hr k T (by omega) ?_
    have : fpN w a (2 * c) = sumTo (fpN w) w a (2 * c) c := by
      rw [fpN_sum w a (2 * c) (by omega), show 2 * c / 2 = c from by omega]
    rw [this]
    exact hT
  | succ d ih =>
    intro c k T hd hc hk hT
    obtain ⟨k, rfl⟩ : ∃ m, k = m + 1 := ⟨k - 1, by omega⟩
    obtain ⟨h1, h2, h3⟩ := hT
    have hne : ∀ i j : Nat, a < i → i ≤ j → j ≤ w.length → rd (rd_L1 T (i : Int)) (j : Int) = fpN w i (j - i) := by
      intro i j hi hij hj
      rw [h3 i j (by omega) hij hj]
      unfold putG
      rw [if_neg (by omega), hg i j (by omega) hij hj hi]
    rw [impl_CountPairings.l2, if_pos (by omega), if_pos (by omega), if_pos (by omega), if_pos (by omega), if_pos (by omega), neg_l hb a (by omega), wp (((a + 2 * c + 1 : Nat) : Int) + 2) (a + 2 * (c + 1) + 1) (by omega) (by omega)]
    by_cases hl : rd w ((a + (2 * c + 1) : Nat) : Int) = - rd w (a : Int)
    · have hl2 : rd w ((a + 2 * c + 1 : Nat) : Int) = - rd w (a : Int) := hl
      rw [if_pos hl2, if_pos (by omega), if_pos (by omega), if_pos (by rw [h2 a (by omega) (by omega)]; omega), wp ((a : Int) + 1) (a + 1) (by omega) (by omega), if_pos (by omega), if_pos (by omega), if_pos (by rw [h2 (a + 1) (by omega) (by omega)]; omega), wp (((a + 2 * c + 1 : Nat) : Int) + 1) (a + 2 * c + 2) (by omega) (by omega), if_pos (by omega), if_pos (by omega), if_pos (by rw [h2 (a + 2 * c + 2) (by omega) (by omega)]; omega)]
      rw [hne (a + 1) (a + 2 * c + 1) (by omega) (by omega) (by omega), hne (a + 2 * c + 2) (a + 2 * q) (by omega) (by omega) (by omega), h3 a (a + 2 * q) (by omega) (by omega) (by omega), show a + 2 * c + 1 - (a + 1) = 2 * c from by omega, show a + 2 * q - (a + 2 * c + 2) = 2 * q - 2 * c - 2 from by omega]
      refine ih (c + 1) k _ (by omega) (by omega) (by omega) ?_
      rw [Int.toNat_natCast, Int.toNat_natCast]
      refine (Tab2.put ⟨h1, h2, h3⟩ a (a + 2 * q) _ (by omega) (by omega) (by omega)).congr (fun i j _ _ _ => ?_)
      rw [putG_putG]
      have es : sumTo (fpN w) w a (2 * q) (c + 1) = wrap64 (sumTo (fpN w) w a (2 * q) c + wrap64 (fpN w (a + 1) (2 * c) * fpN w (a + 2 * c + 2) (2 * q - 2 * c - 2))) := by
        simp only [sumTo]
        rw [if_pos hl]
      have ep : putG g a (a + 2 * q) (sumTo (fpN w) w a (2 * q) c) a (a + 2 * q) = sumTo (fpN w) w a (2 * q) c := by unfold putG; rw [if_pos ⟨rfl, rfl⟩]
      rw [es, ep]
    · have hl2 : ¬ rd w ((a + 2 * c + 1 : Nat) : Int) = - rd w (a : Int) := hl
      rw [if_neg hl2]
      refine ih (c + 1) k T (by omega) (by omega) (by omega) ?_
      have es : sumTo (fpN w) w a (2 * q) (c + 1) = sumTo (fpN w) w a (2 * q) c := by
        simp only [sumTo]
        rw [if_neg hl]
      rw [es]
      exact ⟨h1, h2, h3⟩
/-- What the table holds by places. -/
def gI (w : List Int) (a q : Nat) : Nat → Nat → Int := fun i j => if a < i ∨ j < a + 2 * q ∨ (j - i) % 2 = 1 then fpN w i (j - i) else 0
theorem i_l1 {w : List Int} (hb : wordB w = true) (hn : w.length ≤ 20) (a : Nat) (ha : a ≤ w.length) (r : Option (Int × Bool)) (K0 : Nat)
    (hr : ∀ k T, K0 < k → Tab2 w.length a T (fun i j => fpN w i (j - i)) → impl_CountPairings.l0 k w (w.length : Int) T ((a : Int) - 1) = r) :
    ∀ (d q k : Nat) (T : List (List Int)), w.length + 2 - (a + 2 * q) ≤ d → 1 ≤ q → a + 2 * q ≤ w.length + 2 → K0 + d * 30 + 2 < k → Tab2 w.length a T (gI w a q) → impl_CountPairings.l1 k w (w.length : Int) T (a : Int) ((a + 2 * q : Nat) : Int) = r := by
  intro d
  induction d with
  | zero =>
    intro q k T hd hq hb2 hk hT
    obtain ⟨k, rfl⟩ : ∃ m, k = m + 1 := ⟨k - 1, by omega⟩
    rw [impl_CountPairings.l1, if_neg (by omega), wrap_id ((a : Int) - 1) (by omega) (by omega)]
    refine hr k T (by omega) (hT.congr (fun i j h1 h2 h3 => ?_))
    unfold gI
    rw [if_pos (by omega)]
  | succ d ih =>
    intro q k T hd hq hb2 hk hT
    obtain ⟨k, rfl⟩ : ∃ m, k = m + 1 := ⟨k - 1, by omega⟩
    by_cases hqn : a + 2 * q ≤ w.length
    · rw [impl_CountPairings.l1, if_pos (by omega), wp ((a : Int) + 1) (a + 1) (by omega) (by omega)]
      have h0 := i_l2 hb hn q a hq hqn (gI w a q) (fun i j h1 h2 h3 h4 => by unfold gI; rw [if_pos (Or.inl h4)]) r (K0 + d * 30 + 2) (fun k T hk hT => ih (q + 1) k T (by omega) (by omega) (by omega) hk (hT.congr (fun i j h1 h2 h3 => by
        unfold gI putG
        by_cases e : i = a ∧ j = a + 2 * q
        · rw [if_pos e, if_pos (by omega), e.1, e.2, show a + 2 * q - a = 2 * q from by omega]
        · rw [if_neg e]
          show (if a < i ∨ j < a + 2 * q ∨ (j - i) % 2 = 1 then fpN w i (j - i) else 0) = _
          by_cases e2 : a < i ∨ j < a + 2 * q ∨ (j - i) % 2 = 1
          · rw [if_pos e2, if_pos (by omega)]
          · rw [if_neg e2, if_neg (by omega)]))) q 0 k T (by omega) (by omega) (by omega) (hT.congr (fun i j h1 h2 h3 => by
        unfold putG
        by_cases e : i = a ∧ j = a + 2 * q
        · rw [if_pos e]
          unfold gI
          rw [if_neg (by omega)]
          rfl
        · rw [if_neg e]))
      exact h0
    · rw [impl_CountPairings.l1, if_neg (by omega), wrap_id ((a : Int) - 1) (by omega) (by omega)]
      refine hr k T (by omega) (hT.congr (fun i j h1 h2 h3 => ?_))
      unfold gI
      rw [if_pos (by omega)]
theorem zeros_get (n j : Nat) (h : j < n) : rd (List.replicate n (0 : Int)) (j : Int) = 0 := by
  unfold rd
  rw [Int.toNat_natCast, List.getD_eq_getElem?_getD, List.getElem?_replicate, if_pos h]; rfl
theorem i_l0 {w : List Int} (hb : wordB w = true) (hn : w.length ≤ 20) : ∀ (b k : Nat) (T : List (List Int)), b ≤ w.length + 1 → b * 2000 + 10 < k → Tab2 w.length b T (fun i j => fpN w i (j - i)) → impl_CountPairings.l0 k w (w.length : Int) T ((b : Int) - 1) = some (fpN w 0 w.length, true) := by
  intro b
  induction b with
  | zero =>
    intro k T hbn hk hT
    obtain ⟨k, rfl⟩ : ∃ m, k = m + 1 := ⟨k - 1, by omega⟩
    obtain ⟨h1, h2, h3⟩ := hT
    have e0 : (rd_L1 T 0) = rd_L1 T ((0 : Nat) : Int) := rfl
    rw [impl_CountPairings.l0, if_neg (by omega), if_pos (by omega), if_pos (by omega), e0, if_pos (by rw [h2 0 (by omega) (by omega)]; omega), h3 0 w.length (by omega) (by omega) (by omega)]
    rfl
  | succ a ih =>
    intro k T hbn hk hT
    obtain ⟨k, rfl⟩ : ∃ m, k = m + 1 := ⟨k - 1, by omega⟩
    obtain ⟨h1, h2, h3⟩ := hT
    rw [show (((a + 1 : Nat) : Int) - 1) = (a : Int) from by omega]
    have hrow : rd_L1 (T.set a (List.replicate (w.length + 1) (0 : Int))) (a : Int) = List.replicate (w.length + 1) (0 : Int) := by rw [rdL_set T a a _ (by omega), if_pos rfl]
    rw [impl_CountPairings.l0, if_pos (by omega), wp ((w.length : Int) + 1) (w.length + 1) (by omega) (by omega), if_pos (by omega), if_pos (by omega), if_pos (by omega), if_pos (by omega), Option.bind_some, Int.toNat_natCast, Int.toNat_natCast, hrow, if_pos (by rw [List.length_replicate]; omega), List.set_set, wp ((a : Int) + 2) (a + 2 * 1) (by omega) (by omega)]
    refine i_l1 hb hn a (by omega) _ (a * 2000 + 10) (fun k T hk hT => ih k T (by omega) hk hT) 30 1 k _ (by omega) (by omega) (by omega) (by omega) ⟨by rw [List.length_set]; exact h1, fun i hi hin => ?_, fun i j hi hij hj => ?_⟩
    · rw [rdL_set T a i _ (by omega)]
      split
      · rw [List.length_set, List.length_replicate]
      · exact h2 i (by omega) hin
    · rw [rdL_set T a i _ (by omega)]
      unfold gI
      by_cases e : i = a
      · subst e
        rw [if_pos rfl, rd_set _ i j 1 (by rw [List.length_replicate]; omega)]
        by_cases e2 : j = i
        · rw [if_pos e2, if_pos (by omega), e2, Nat.sub_self, fpN_zero]
        · rw [if_neg e2, zeros_get (w.length + 1) j (by omega)]
          by_cases e3 : (j - i) % 2 = 1
          · rw [if_pos (Or.inr (Or.inr e3)), fpN_odd w (j - i) i e3]
          · rw [if_neg (by omega)]
      · rw [if_neg e, h3 i j (by omega) hij hj, if_pos (Or.inl (by omega))]
theorem CountPairings_agree (l0 : List Int) (hl : l0.length ≤ 1048576) : ∃ K r1 r2, ∀ k, K ≤ k → spec_CountPairings.f k l0 = some (r1, r2) ∧ impl_CountPairings.f k l0 = some (r1, r2) := by
  cases hb : wordB l0 with
  | false =>
    refine ⟨2 * l0.length + 3, 0, false, fun k hk => ?_⟩
    obtain ⟨k, rfl⟩ : ∃ m, k = m + 1 := ⟨k - 1, by omega⟩
    unfold spec_CountPairings.f impl_CountPairings.f
    rw [l2Word_f l0 (by omega) _ (by omega), isWord_f, hb, Option.bind_some, Option.bind_some, if_neg (by simp), if_neg (by simp), impl_CountPairings.j0, if_pos rfl]
    exact ⟨rfl, rfl⟩
  | true =>
    by_cases h20 : l0.length ≤ 20
    · refine ⟨2 * l0.length + 100000, fpN l0 0 l0.length, true, fun k hk => ?_⟩
      obtain ⟨k, rfl⟩ : ∃ m, k = m + 1 := ⟨k - 1, by omega⟩
      unfold spec_CountPairings.f impl_CountPairings.f
      rw [l2Word_f l0 (by omega) _ (by omega), isWord_f, hb, Option.bind_some, Option.bind_some, if_pos rfl, if_pos rfl, if_neg (by omega), l11Count_f hb h20 _ (by omega), Option.bind_some, impl_CountPairings.j0, decide_eq_false (by omega), if_neg (by simp), wp ((l0.length : Int) + 1) (l0.length + 1) (by omega) (by omega), if_pos (by omega), if_pos (by omega), Int.toNat_natCast]
      refine ⟨rfl, ?_⟩
      have := i_l0 hb h20 (l0.length + 1) k (List.replicate (l0.length + 1) []) (by omega) (by omega) ⟨by rw [List.length_replicate], fun i h1 h2 => by omega, fun i j h1 h2 h3 => by omega⟩
      rw [show (((l0.length + 1 : Nat) : Int) - 1) = (l0.length : Int) from by omega] at this
      exact this
    · refine ⟨2 * l0.length + 3, 0, false, fun k hk => ?_⟩
      obtain ⟨k, rfl⟩ : ∃ m, k = m + 1 := ⟨k - 1, by omega⟩
      unfold spec_CountPairings.f impl_CountPairings.f
      rw [l2Word_f l0 (by omega) _ (by omega), isWord_f, hb, Option.bind_some, Option.bind_some, if_pos rfl, if_pos rfl, if_pos (by omega), impl_CountPairings.j0, decide_eq_true (by omega), if_pos rfl]
      exact ⟨rfl, rfl⟩
end Go.Proofs.Ytgifhmjbmnopcaa.Q
