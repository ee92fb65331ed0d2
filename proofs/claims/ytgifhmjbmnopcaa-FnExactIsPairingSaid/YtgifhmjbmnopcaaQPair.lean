import Derived.Test.YtgifhmjbmnopcaaPx19
import Derived.Test.YtgifhmjbmnopcaaPx1
import Derived.Test.YtgifhmjbmnopcaaQCut
import Derived.Test.YtgifhmjbmnopcaaPx20
import Derived.Test.YtgifhmjbmnopcaaPx21
import Derived.Test.YtgifhmjbmnopcaaPx21
import Derived.Test.YtgifhmjbmnopcaaPx21
/- Plain facts on lists that are pairings. -/
namespace Go.Proofs.Ytgifhmjbmnopcaa.Q
open Go.RowKit Go.Proofs.Ytgifhmjbmnopcaa.Px Go.Proofs.Ytgifhmjbmnopcaa.Giv Go.Proofs.YtgifhmjbmnopcaaW.PrintWords Go.Proofs.YtgifhmjbmnopcaaW.PrintLast
set_option linter.unusedVariables false
set_option linter.unusedSimpArgs false
def inB (l : List Int) (lo hi : Int) : Nat → Int → Bool
  | 0, _ => true
  | n + 1, x => if rd l x ≤ lo then false else if rd l x ≥ hi then false else inB l lo hi n (x + 1)
def pairB (w l : List Int) : Nat → Int → Bool
  | 0, _ => true
  | n + 1, x => if rd l x = -1 then pairB w l n (x + 1) else
      if 0 ≤ rd l x ∧ rd l x < (w.length : Int) ∧ rd l (rd l x) = x ∧ rd w (rd l x) = - rd w x then
        (if inB l (mn x (rd l x)) (mx x (rd l x)) (mx x (rd l x) - mn x (rd l x) - 1).toNat (mn x (rd l x) + 1) then pairB w l n (x + 1) else false)
      else false
theorem least_f (a b : Int) : spec_l1Least.f a b = some (mn a b) := by
  unfold spec_l1Least.f mn
  by_cases h : a < b
  · rw [if_pos h, if_neg (by omega)]
  · by_cases h2 : b < a
    · rw [if_neg h, if_pos h2]
    · rw [if_neg h, if_neg h2]; congr 1; omega
theorem most_f (a b : Int) : spec_l1Most.f a b = some (mx a b) := by
  unfold spec_l1Most.f mx
  by_cases h : a > b
  · rw [if_pos h, if_neg (by omega)]
  · by_cases h2 : a < b
    · rw [if_neg h, if_pos h2]
    · rw [if_neg h, if_neg h2]; congr 1; omega
theorem in_f (a lo hi : Int) : spec_l1In.f a lo hi = some (decide (lo ≤ a ∧ a ≤ hi)) := by
  unfold spec_l1In.f
  by_cases h : a ≥ lo
  · rw [if_pos h]
    by_cases h2 : a ≤ hi <;> simp [h2, show lo ≤ a from h]
  · rw [if_neg h]
    have h' : ¬ lo ≤ a := h
    simp [h']
theorem impl_inner (w l : List Int) (a b : Int) (ha : 0 ≤ a) (hb : 0 ≤ b) (hal : a < (l.length : Int)) (hbl : b < (l.length : Int)) (hl : l.length ≤ 1099511627776) (r : Option Bool) (x13 : List Int) (x14 x15 : Int) (K0 : Nat) (hr : ∀ k, K0 < k → impl_isPairing.l0 k w l x13 x14 (wrap64 (x15 + 1)) = r) : ∀ (n : Nat) (x : Int) (k : Nat), n = (mx a b - x).toNat → 0 ≤ x → K0 + n + 1 < k → impl_isPairing.l1 k w l a b x x13 x14 x15 = (if inB l (mn a b) (mx a b) n x then r else some false) := by
  have hm : mx a b < (l.length : Int) := by unfold mx; split <;> omega
  intro n
  induction n with
  | zero =>
    intro x k hn h0 hk
    obtain ⟨k, rfl⟩ : ∃ m, k = m + 1 := ⟨k - 1, by omega⟩
    rw [impl_isPairing.l1, if_neg (by omega), hr k (by omega)]
    rfl
  | succ n ih =>
    intro x k hn h0 hk
    obtain ⟨k, rfl⟩ : ∃ m, k = m + 1 := ⟨k - 1, by omega⟩
    rw [impl_isPairing.l1, if_pos (by omega), if_pos (by omega), if_pos (by omega)]
    rw [wrap_id _ (by omega) (by omega), ih (x + 1) k (by omega) (by omega) (by omega)]
    have e : inB l (mn a b) (mx a b) (n + 1) x = if rd l x ≤ mn a b then false else if rd l x ≥ mx a b then false else inB l (mn a b) (mx a b) n (x + 1) := rfl
    by_cases h1 : rd l x ≤ mn a b
    · rw [if_pos h1] at e
      rw [if_pos h1, e]; simp
    · rw [if_neg h1] at e
      rw [if_neg h1]
      by_cases h2 : rd l x ≥ mx a b
      · rw [if_pos h2] at e
        rw [if_pos h2, e]; simp
      · rw [if_neg h2] at e
        rw [if_neg h2, e]
theorem spec_inner (w l : List Int) (a b : Int) (ha : 0 ≤ a) (hb : 0 ≤ b) (hal : a < (l.length : Int)) (hbl : b < (l.length : Int)) (hl : l.length ≤ 1099511627776) (r : Option Bool) (K0 : Nat) (hr : ∀ k, K0 < k → spec_l11Pairing.l0 k w l (wrap64 (a + 1)) = r) : ∀ (n : Nat) (x : Int) (k : Nat), n = (mx a b - x).toNat → 0 ≤ x → K0 + n + 1 < k → spec_l11Pairing.l1 k w l a b x = (if inB l (mn a b) (mx a b) n x then r else some false) := by
  have hm : mx a b < (l.length : Int) := by unfold mx; split <;> omega
  have hm0 : 0 ≤ mx a b := by unfold mx; split <;> omega
  have hn0 : 0 ≤ mn a b := by unfold mn; split <;> omega
  have hn1 : mn a b < (l.length : Int) := by unfold mn; split <;> omega
  intro n
  induction n with
  | zero =>
    intro x k hn h0 hk
    obtain ⟨k, rfl⟩ : ∃ m, k = m + 1 := ⟨k - 1, by omega⟩
    rw [spec_l11Pairing.l1, most_f]
    rw [Option.bind_some, if_neg (by omega), hr k (by omega)]
    rfl
  | succ n ih =>
    intro x k hn h0 hk
    obtain ⟨k, rfl⟩ : ∃ m, k = m + 1 := ⟨k - 1, by omega⟩
    rw [spec_l11Pairing.l1, most_f]
    rw [Option.bind_some, if_pos (by omega), if_pos (by omega), if_pos (by omega)]
    rw [least_f, Option.bind_some, Option.bind_some, in_f, Option.bind_some]
    rw [wrap_id (x + 1) (by omega) (by omega), ih (x + 1) k (by omega) (by omega) (by omega)]
    rw [wrap_id (mn a b + 1) (by omega) (by omega), wrap_id (mx a b - 1) (by omega) (by omega)]
    have e : inB l (mn a b) (mx a b) (n + 1) x = if rd l x ≤ mn a b then false else if rd l x ≥ mx a b then false else inB l (mn a b) (mx a b) n (x + 1) := rfl
    by_cases h1 : rd l x ≤ mn a b
    · rw [if_pos h1] at e
      rw [if_neg (by rw [decide_eq_true_eq]; omega), e]; simp
    · rw [if_neg h1] at e
      by_cases h2 : rd l x ≥ mx a b
      · rw [if_pos h2] at e
        rw [if_neg (by rw [decide_eq_true_eq]; omega), e]; simp
      · rw [if_neg h2] at e
        rw [if_pos (by rw [decide_eq_true_eq]; omega), e]
theorem neg_wrap {w : List Int} (hb : wordB w = true) (i : Nat) (hi : i < w.length) : wrap64 (-(rd w (i : Int))) = - rd w (i : Int) := by
  have h := letter_range ((word_true w hb).2 _ (rd_mem w i hi))
  exact wrap_id _ (by omega) (by omega)
theorem impl_pair_l0 (w l : List Int) (hb : wordB w = true) (hl : l.length = w.length) (hw : w.length ≤ 1048576) : ∀ (d i k : Nat), w.length - i = d → i ≤ w.length → d * (w.length + 4) + 1 < k → impl_isPairing.l0 k w l l (l.length : Int) (i : Int) = some (pairB w l d (i : Int)) := by
  intro d
  induction d with
  | zero =>
    intro i k hd hi hk
    obtain ⟨k, rfl⟩ : ∃ m, k = m + 1 := ⟨k - 1, by omega⟩
    rw [impl_isPairing.l0, if_neg (by omega)]
    rfl
  | succ d ih =>
    intro i k hd hi hk
    obtain ⟨k, rfl⟩ : ∃ m, k = m + 1 := ⟨k - 1, by omega⟩
    rw [Nat.succ_mul] at hk
    have e : ((i : Int) + 1) = ((i + 1 : Nat) : Int) := by omega
    have ihn : ∀ k', d * (w.length + 4) + 1 < k' → impl_isPairing.l0 k' w l l (l.length : Int) (wrap64 ((i : Int) + 1)) = some (pairB w l d ((i : Int) + 1)) := by
      intro k' hk'
      rw [wrap_id _ (by omega) (by omega), e]
      exact ih (i + 1) k' (by omega) (by omega) hk'
    rw [impl_isPairing.l0, if_pos (by omega), if_pos (by omega), if_pos (by omega)]
    simp only [pairB]
    by_cases h1 : rd l (i : Int) = -1
    · rw [if_pos h1, if_pos h1]; exact ihn k (by omega)
    · rw [if_neg h1, if_neg h1]
      obtain ⟨k, rfl⟩ : ∃ m, k = m + 1 := ⟨k - 1, by omega⟩
      have jt : ∀ p q, impl_isPairing.j1 (k + 1) w l p q l (l.length : Int) (i : Int) true = some false := by
        intro p q; rw [impl_isPairing.j1, if_pos rfl]
      by_cases h2 : rd l (i : Int) < 0
      · rw [if_pos h2, jt, if_neg (by omega)]
      · rw [if_neg h2]
        by_cases h3 : rd l (i : Int) ≥ (w.length : Int)
        · rw [if_pos h3, jt, if_neg (by omega)]
        · rw [if_neg h3, if_pos (by omega), if_pos (by omega)]
          by_cases h4 : rd l (rd l (i : Int)) = (i : Int)
          · rw [if_pos h4, if_pos (by omega), if_pos (by omega), neg_wrap hb i (by omega)]
            by_cases h5 : rd w (rd l (i : Int)) = - rd w (i : Int)
            · have hm : mx (i : Int) (rd l (i : Int)) < (l.length : Int) := by unfold mx; split <;> omega
              have hm0 : 0 ≤ mx (i : Int) (rd l (i : Int)) := by unfold mx; split <;> omega
              have hn0 : 0 ≤ mn (i : Int) (rd l (i : Int)) := by unfold mn; split <;> omega
              have hn1 : mn (i : Int) (rd l (i : Int)) < (l.length : Int) := by unfold mn; split <;> omega
              rw [if_pos ⟨by omega, by omega, h4, h5⟩, h5]
              rw [impl_isPairing.j1, if_neg (by simp), wrap_id _ (by omega) (by omega)]
              rw [impl_inner w l (i : Int) (rd l (i : Int)) (by omega) (by omega) (by omega) (by omega) (by omega) _ l (l.length : Int) (i : Int) (d * (w.length + 4) + 1) ihn (mx (i : Int) (rd l (i : Int)) - mn (i : Int) (rd l (i : Int)) - 1).toNat _ k (by omega) (by omega) (by omega)]
              split <;> rfl
            · rw [show (rd w (rd l (i : Int)) != - rd w (i : Int)) = true from by simpa using h5, jt, if_neg (by intro h; exact h5 h.2.2.2)]
          · rw [if_neg h4, jt, if_neg (by intro h; exact h4 h.2.2.1)]
theorem spec_pair_l0 (w l : List Int) (hb : wordB w = true) (hl : l.length = w.length) (hw : w.length ≤ 1048576) : ∀ (d i k : Nat), w.length - i = d → i ≤ w.length → d * (w.length + 4) + 1 < k → spec_l11Pairing.l0 k w l (i : Int) = some (pairB w l d (i : Int)) := by
  intro d
  induction d with
  | zero =>
    intro i k hd hi hk
    obtain ⟨k, rfl⟩ : ∃ m, k = m + 1 := ⟨k - 1, by omega⟩
    rw [spec_l11Pairing.l0, if_neg (by omega)]
    rfl
  | succ d ih =>
    intro i k hd hi hk
    obtain ⟨k, rfl⟩ : ∃ m, k = m + 1 := ⟨k - 1, by omega⟩
    rw [Nat.succ_mul] at hk
    have e : ((i : Int) + 1) = ((i + 1 : Nat) : Int) := by omega
    have ihn : ∀ k', d * (w.length + 4) + 1 < k' → spec_l11Pairing.l0 k' w l (wrap64 ((i : Int) + 1)) = some (pairB w l d ((i : Int) + 1)) := by
      intro k' hk'
      rw [wrap_id _ (by omega) (by omega), e]
      exact ih (i + 1) k' (by omega) (by omega) hk'
    rw [spec_l11Pairing.l0, if_pos (by omega), if_pos (by omega)]
    simp only [pairB]
    by_cases h1 : rd l (i : Int) = -1
    · rw [if_pos h1, if_pos h1]; exact ihn k (by omega)
    · rw [if_neg h1, if_neg h1]
      obtain ⟨k, rfl⟩ : ∃ m, k = m + 1 := ⟨k - 1, by omega⟩
      have jt : ∀ p q, spec_l11Pairing.j1 (k + 1) w l p q true = some false := by
        intro p q; rw [spec_l11Pairing.j1, if_pos rfl]
      rw [in_f, Option.bind_some, wrap_id ((w.length : Int) - 1) (by omega) (by omega)]
      by_cases h2 : 0 ≤ rd l (i : Int) ∧ rd l (i : Int) ≤ (w.length : Int) - 1
      · rw [if_pos (by simpa using h2)]
        have h0 := letter_range ((word_true w hb).2 _ (rd_mem w i (by omega)))
        by_cases h3 : rd l (i : Int) = (i : Int)
        · rw [if_pos h3, jt, if_neg (by rw [h3]; omega)]
        · rw [if_neg h3, if_pos (by omega), if_pos (by omega)]
          by_cases h4 : rd l (rd l (i : Int)) = (i : Int)
          · rw [if_pos h4, if_pos (by omega), if_pos (by omega), neg_wrap hb i (by omega)]
            by_cases h5 : rd w (rd l (i : Int)) = - rd w (i : Int)
            · have hm : mx (i : Int) (rd l (i : Int)) < (l.length : Int) := by unfold mx; split <;> omega
              have hm0 : 0 ≤ mx (i : Int) (rd l (i : Int)) := by unfold mx; split <;> omega
              have hn0 : 0 ≤ mn (i : Int) (rd l (i : Int)) := by unfold mn; split <;> omega
              have hn1 : mn (i : Int) (rd l (i : Int)) < (l.length : Int) := by unfold mn; split <;> omega
              rw [if_pos ⟨by omega, by omega, h4, h5⟩, h5]
              rw [spec_l11Pairing.j1, if_neg (by simp), least_f, Option.bind_some, wrap_id _ (by omega) (by omega)]
              rw [spec_inner w l (i : Int) (rd l (i : Int)) (by omega) (by omega) (by omega) (by omega) (by omega) _ (d * (w.length + 4) + 1) ihn (mx (i : Int) (rd l (i : Int)) - mn (i : Int) (rd l (i : Int)) - 1).toNat _ k (by omega) (by omega) (by omega)]
              split <;> rfl
            · rw [show (rd w (rd l (i : Int)) != - rd w (i : Int)) = true from by simpa using h5, jt, if_neg (by intro h; exact h5 h.2.2.2)]
          · rw [if_neg h4, jt, if_neg (by intro h; exact h4 h.2.2.1)]
      · rw [if_neg (by simpa using h2), jt, if_neg (by omega)]
theorem IsPairing_agree (l0 l1 : List Int) (hl : l0.length ≤ 1048576) (hl1 : l1.length ≤ 1048576) : ∃ K r1 r2, ∀ k, K ≤ k → spec_IsPairing.f k l0 l1 = some (r1, r2) ∧ impl_IsPairing.f k l0 l1 = some (r1, r2) := by
  cases hb : wordB l0 with
  | false =>
    refine ⟨2 * l0.length + 3, false, false, fun k hk => ?_⟩
    unfold spec_IsPairing.f impl_IsPairing.f
    rw [l2Word_f l0 (by omega) k (by omega), isWord_f, hb]
    simp
  | true =>
    refine ⟨2 * l0.length + 10 + l0.length * (l0.length + 4), (if (l1.length : Int) = (l0.length : Int) then pairB l0 l1 l0.length 0 else false), true, fun k hk => ?_⟩
    unfold spec_IsPairing.f impl_IsPairing.f
    rw [l2Word_f l0 (by omega) k (by omega), isWord_f, hb]
    simp only [Option.bind_some, if_true]
    unfold spec_l11Pairing.f impl_isPairing.f
    by_cases h : (l1.length : Int) = (l0.length : Int)
    · have e0 : ((0 : Nat) : Int) = 0 := rfl
      have s1 := spec_pair_l0 l0 l1 hb (by omega) hl l0.length 0 k (by omega) (by omega) (by omega)
      have s2 := impl_pair_l0 l0 l1 hb (by omega) hl l0.length 0 k (by omega) (by omega) (by omega)
      rw [e0] at s1 s2
      rw [if_pos h, if_pos h, if_pos h, s1, s2]
      simp
    · rw [if_neg h, if_neg h, if_neg h]
      simp
end Go.Proofs.Ytgifhmjbmnopcaa.Q
