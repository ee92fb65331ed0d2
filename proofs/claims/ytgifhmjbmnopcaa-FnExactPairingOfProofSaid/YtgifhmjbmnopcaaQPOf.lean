import Derived.Test.YtgifhmjbmnopcaaQTaken
import Derived.Test.YtgifhmjbmnopcaaGivR
import Derived.Test.YtgifhmjbmnopcaaPx19
import Derived.Test.YtgifhmjbmnopcaaPx19
import Derived.Test.YtgifhmjbmnopcaaPx20
import Derived.Test.YtgifhmjbmnopcaaPx20
import Derived.Test.YtgifhmjbmnopcaaPx21
/- Plain facts on the pairing of a word. -/
namespace Go.Proofs.Ytgifhmjbmnopcaa.Q
open Go.RowKit Go.Proofs.Ytgifhmjbmnopcaa.Px Go.Proofs.Ytgifhmjbmnopcaa.Giv Go.Proofs.YtgifhmjbmnopcaaW.PrintWords Go.Proofs.YtgifhmjbmnopcaaW.PrintLast
set_option linter.unusedVariables false
set_option linter.unusedSimpArgs false
theorem none_l0 (n : Nat) (hn : n ≤ 1048576) : ∀ (d i k : Nat), n - i = d → i ≤ n → d < k → spec_l11None.l0 k (n : Int) (List.replicate i (-1)) (i : Int) = some (List.replicate n (-1)) := by
  intro d
  induction d with
  | zero =>
    intro i k hd hi hk
    obtain ⟨k, rfl⟩ : ∃ m, k = m + 1 := ⟨k - 1, by omega⟩
    rw [spec_l11None.l0, if_neg (by omega), show i = n from by omega]
  | succ d ih =>
    intro i k hd hi hk
    obtain ⟨k, rfl⟩ : ∃ m, k = m + 1 := ⟨k - 1, by omega⟩
    have e : ((i : Int) + 1) = ((i + 1 : Nat) : Int) := by omega
    rw [spec_l11None.l0, if_pos (by omega), if_pos (by rw [List.length_replicate]; omega), wrap_id _ (by omega) (by omega), e, ← List.replicate_succ']
    exact ih (i + 1) k (by omega) (by omega) (by omega)
theorem none_f (n : Nat) (hn : n ≤ 1048576) (k : Nat) (hk : n < k) : spec_l11None.f k (n : Int) = some (List.replicate n (-1)) := by
  unfold spec_l11None.f
  exact none_l0 n hn n 0 k (by omega) (by omega) hk
theorem unpaired_f (n : Nat) (hn : n ≤ 65535) : impl_unpaired.f (n : Int) = some (List.replicate n (-1)) := by
  unfold impl_unpaired.f slices_Repeat_int_int.f
  rw [if_pos (by simp), if_pos (by omega)]
  simp [rd]
theorem cutL_mem {l : List Int} {j : Nat} {x : Int} (h : x ∈ cutL l j) : x ∈ l := by
  unfold cutL at h
  rw [List.mem_append] at h
  rcases h with h | h
  · exact List.mem_of_mem_take h
  · exact List.mem_of_mem_drop h
theorem taken_l1 (l1 : List Int) (hl : l1.length ≤ 1048576) : ∀ (d i k : Nat) (out places : List Int), l1.length - i = d → i ≤ l1.length → d < k → places.length ≤ 1048576 → (∀ x ∈ places, 0 ≤ x ∧ x < (out.length : Int)) → fitL places.length (l1.drop i) →
    spec_l11Taken.l1 k l1 out places (i : Int) = some (takenL out places (l1.drop i)) := by
  intro d
  induction d with
  | zero =>
    intro i k out places hd hi hk hp hm hf
    obtain ⟨k, rfl⟩ : ∃ m, k = m + 1 := ⟨k - 1, by omega⟩
    rw [spec_l11Taken.l1, if_neg (by omega), List.drop_of_length_le (by omega)]
    rfl
  | succ d ih =>
    intro i k out places hd hi hk hp hm hf
    obtain ⟨k, rfl⟩ : ∃ m, k = m + 1 := ⟨k - 1, by omega⟩
    have e : ((i : Int) + 1) = ((i + 1 : Nat) : Int) := by omega
    rw [drop_cons l1 i (by omega)] at hf ⊢
    obtain ⟨h0, h1, h2⟩ := hf
    obtain ⟨j, hj⟩ := Int.eq_ofNat_of_zero_le h0
    rw [hj] at h0 h1
    have ej : ((j : Int) + 1) = ((j + 1 : Nat) : Int) := by omega
    have ma := hm _ (rd_mem places j (by omega))
    have mb := hm _ (rd_mem places (j + 1) (by omega))
    rw [spec_l11Taken.l1, if_pos (by omega), if_pos (by omega), hj, if_pos (by omega), if_pos (by omega), wrap_id ((j : Int) + 1) (by omega) (by omega), if_pos (by omega), if_pos (by omega), ej, if_pos ma.1, if_pos ma.2, if_pos mb.1, if_pos mb.2]
    rw [l11Cut_f places (by omega) j (by omega), Option.bind_some, wrap_id _ (by omega) (by omega), e]
    have hcl := cutL_length places j (by omega)
    rw [ih (i + 1) k _ _ (by omega) (by omega) (by omega) (by omega) (by
      intro x hx
      have := hm x (cutL_mem hx)
      simpa using this) (by rw [show (cutL places j).length = places.length - 2 from by omega]; exact h2)]
    simp only [takenL]
    rw [Int.toNat_natCast, ej]
theorem taken_l0 (w l1 out : List Int) (hw : w.length ≤ 1048576) (r : Option (List Int)) (K0 : Nat) (hr : ∀ k, K0 < k → spec_l11Taken.l1 k l1 out (irange 0 w.length) 0 = r) : ∀ (d i k : Nat), w.length - i = d → i ≤ w.length → K0 + d + 1 < k →
    spec_l11Taken.l0 k w l1 out (irange 0 i) (i : Int) = r := by
  intro d
  induction d with
  | zero =>
    intro i k hd hi hk
    obtain ⟨k, rfl⟩ : ∃ m, k = m + 1 := ⟨k - 1, by omega⟩
    rw [spec_l11Taken.l0, if_neg (by omega), show i = w.length from by omega, hr k (by omega)]
  | succ d ih =>
    intro i k hd hi hk
    obtain ⟨k, rfl⟩ : ∃ m, k = m + 1 := ⟨k - 1, by omega⟩
    have e : ((i : Int) + 1) = ((i + 1 : Nat) : Int) := by omega
    rw [spec_l11Taken.l0, if_pos (by omega), if_pos (by rw [irange_length]; omega), ← irange_concat, wrap_id _ (by omega) (by omega), e]
    exact ih (i + 1) k (by omega) (by omega) (by omega)
/-- The pairing that cuts leave. -/
def takenOf (n : Nat) (l : List Int) : List Int := takenL (List.replicate n (-1)) (irange 0 n) l
theorem taken_f (w l1 : List Int) (hw : w.length ≤ 65535) (hl : l1.length ≤ 1048576) (hf : fitL w.length l1) (k : Nat) (hk : w.length + l1.length + 5 < k) : spec_l11Taken.f k w l1 = some (takenOf w.length l1) := by
  unfold spec_l11Taken.f
  rw [none_f w.length (by omega) k (by omega), Option.bind_some]
  refine taken_l0 w l1 _ (by omega) _ (l1.length + 1) ?_ w.length 0 k (by omega) (by omega) (by omega)
  intro k hk
  have := taken_l1 l1 hl l1.length 0 k (List.replicate w.length (-1)) (irange 0 w.length) (by omega) (by omega) (by omega) (by rw [irange_length]; omega) (by
    intro x hx
    have := irange_mem hx
    rw [List.length_replicate]
    omega) (by rw [irange_length]; exact hf)
  exact this
theorem greedy_length : ∀ (n : Nat) (v : List Int), (greedy n v).length ≤ n
  | 0, v => by simp [greedy]
  | n + 1, v => by
    simp only [greedy]
    cases hc : cuts v with
    | nil => simp
    | cons c t =>
      have := greedy_length n (cutL v c.toNat)
      simp only [List.length_cons]
      omega
theorem spec_pof_l0 (w : List Int) (hw : w.length ≤ 64) : ∀ (n k : Nat) (list v : List Int), v.length ≤ n → n ≤ 64 → v.length + 2 * list.length = w.length → fitL w.length list → list.length ≤ 64 → n + w.length + 300 < k →
    spec_PairingOf.l0 k w list v (cuts v) = some (takenOf w.length (list ++ greedy n v), true) := by
  intro n
  induction n with
  | zero =>
    intro k list v hv hn hs hf hll hk
    obtain ⟨k, rfl⟩ : ∃ m, k = m + 1 := ⟨k - 1, by omega⟩
    have hc : cuts v = [] := by
      have : v.length = 0 := by omega
      unfold cuts
      rw [this]; rfl
    rw [spec_PairingOf.l0, hc, if_neg (by simp), taken_f w list (by omega) (by omega) hf k (by omega)]
    simp [greedy]
  | succ n ih =>
    intro k list v hv hn hs hf hll hk
    obtain ⟨k, rfl⟩ : ∃ m, k = m + 1 := ⟨k - 1, by omega⟩
    cases hc : cuts v with
    | nil =>
      rw [spec_PairingOf.l0, if_neg (by simp), taken_f w list (by omega) (by omega) hf k (by omega)]
      simp [greedy, hc]
    | cons c t =>
      obtain ⟨j, hcj, h1, h2⟩ := cuts_mem (v := v) (c := c) (by rw [hc]; simp)
      have hl := cutL_length v j h2
      have er : rd (c :: t) 0 = (j : Int) := by rw [hcj]; rfl
      rw [spec_PairingOf.l0, if_pos (by simp only [List.length_cons]; omega), if_pos (by simp only [List.length_cons]; omega), if_pos (by omega), er, l11Cut_f v (by omega) j h2, Option.bind_some, l11Cuts_f (cutL v j) k (by omega) (by omega), Option.bind_some]
      have hg : greedy (n + 1) v = (j : Int) :: greedy n (cutL v j) := by simp only [greedy, hc]; rw [hcj, Int.toNat_natCast]
      rw [ih k (list ++ [(j : Int)]) (cutL v j) (by omega) (by omega) (by rw [List.length_append, List.length_singleton]; omega) (fit_append _ _ _ hf ⟨by omega, by omega, trivial⟩) (by rw [List.length_append, List.length_singleton]; omega) (by omega), hg]
      simp
theorem impl_pof_l0 {w : List Int} (hb : wordB w = true) : ∀ (d i k : Nat) (out op : List Int), i + d = w.length → d < k → out.length = w.length → op.length ≤ i → (∀ x ∈ op, 0 ≤ x ∧ x < (w.length : Int)) →
    impl_PairingOf.l0 k w out op w (w.length : Int) (i : Int) = some (stk w d i out op, true) := by
  have h64 := (word_true w hb).1
  intro d
  induction d with
  | zero =>
    intro i k out op hi hk ho hl hop
    obtain ⟨k, rfl⟩ : ∃ m, k = m + 1 := ⟨k - 1, by omega⟩
    rw [impl_PairingOf.l0, if_neg (by omega)]
    rfl
  | succ d ih =>
    intro i k out op hi hk ho hl hop
    obtain ⟨k, rfl⟩ : ∃ m, k = m + 1 := ⟨k - 1, by omega⟩
    have e : wrap64 ((i : Int) + 1) = ((i + 1 : Nat) : Int) := by rw [wrap_id _ (by omega) (by omega)]; omega
    have hpush : impl_PairingOf.l0 k w out (op ++ [(i : Int)]) w (w.length : Int) ((i + 1 : Nat) : Int) = some (stk w d (i + 1) out (op ++ [(i : Int)]), true) := by
      refine ih (i + 1) k out (op ++ [(i : Int)]) (by omega) (by omega) ho (by rw [List.length_append, List.length_singleton]; omega) ?_
      intro x hx
      rw [List.mem_append] at hx
      rcases hx with hx | hx
      · exact hop x hx
      · simp at hx; omega
    rw [impl_PairingOf.l0, if_pos (by omega), if_pos (by omega), if_pos (by omega), wrap_id ((op.length : Int) - 1) (by omega) (by omega), e]
    simp only [stk]
    by_cases hne : op = []
    · subst hne
      rw [if_neg (by simp), if_pos (by simp), if_neg (by simp)]
      exact hpush
    · have hpos : 0 < op.length := List.length_pos_iff.mpr hne
      have e1 : (op.length : Int) - 1 = ((op.length - 1 : Nat) : Int) := by omega
      rw [e1]
      have hm := hop _ (rd_mem op (op.length - 1) (by omega))
      have hi2 := rd_letter hb (x := (i : Int)) (by omega) (by omega)
      rw [if_pos (by omega), if_pos (by omega), if_pos (by omega), if_pos hm.1, if_pos hm.2, wrap_id (-(rd w (i : Int))) (by omega) (by omega)]
      by_cases hq : rd w (rd op ((op.length - 1 : Nat) : Int)) = - rd w (i : Int)
      · rw [if_pos hq, if_pos (by omega), if_pos (by omega), if_pos (by omega), if_pos ⟨hne, hq⟩, Int.toNat_natCast, Int.toNat_natCast, ← List.dropLast_eq_take]
        refine ih (i + 1) k _ _ (by omega) (by omega) (by simpa using ho) (by rw [List.length_dropLast]; omega) ?_
        intro x hx
        rw [List.dropLast_eq_take] at hx
        exact hop x (List.mem_of_mem_take hx)
      · rw [if_neg hq, if_pos (by omega), if_neg (by intro h; exact hq h.2)]
        exact hpush
theorem PairingOf_agree (l0 : List Int) (hl : l0.length ≤ 1048576) : ∃ K r b, r.length ≤ 1099511627776 ∧ ∀ k, K ≤ k → spec_PairingOf.f k l0 = some (r, b) ∧ impl_PairingOf.f k l0 = some (r, b) := by
  cases hb : wordB l0 with
  | false =>
    refine ⟨2 * l0.length + 3, [], false, by simp, fun k hk => ?_⟩
    unfold spec_PairingOf.f impl_PairingOf.f
    rw [l2Word_f l0 (by omega) k (by omega), isWord_f, hb]
    simp
  | true =>
    have h64 := (word_true l0 hb).1
    have hst : ∀ (d i : Nat) (out op : List Int), (stk l0 d i out op).length = out.length := by
      intro d
      induction d with
      | zero => intro i out op; rfl
      | succ d ih =>
        intro i out op
        simp only [stk]
        split
        · rw [ih]; simp
        · rw [ih]
    refine ⟨2 * l0.length + 1000, stk l0 l0.length 0 (List.replicate l0.length (-1)) [], true, by rw [hst, List.length_replicate]; omega, fun k hk => ?_⟩
    unfold spec_PairingOf.f impl_PairingOf.f
    rw [l2Word_f l0 (by omega) k (by omega), isWord_f, hb, Option.bind_some, Option.bind_some, if_pos rfl, if_pos rfl, own_f l0 (by omega), Option.bind_some, l11Cuts_f l0 k (by omega) (by omega), Option.bind_some, unpaired_f l0.length (by omega), Option.bind_some]
    have hi := impl_pof_l0 hb l0.length 0 k (List.replicate l0.length (-1)) [] (by omega) (by omega) (by simp) (by simp) (by simp)
    have hs := spec_pof_l0 l0 h64 l0.length k [] l0 (by omega) (by omega) (by simp) trivial (by simp) (by omega)
    have hg := stk_greedy hb l0.length 0 l0.length [] (List.replicate l0.length (-1)) (by omega) (by omega) (by simp) (by intro j hj; simp at hj)
    have hw : (irange 0 l0.length).map (rd l0) = l0 := by
      apply List.ext_getElem
      · simp [irange_length]
      · intro j h1 h2
        simp [irange, rd_get l0 j h2]
    rw [List.nil_append, hw] at hg
    rw [List.nil_append] at hs
    refine ⟨?_, hi⟩
    rw [hs]
    unfold takenOf
    rw [hg]
end Go.Proofs.Ytgifhmjbmnopcaa.Q
