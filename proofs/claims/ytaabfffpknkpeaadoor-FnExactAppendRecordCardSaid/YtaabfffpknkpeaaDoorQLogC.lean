import Derived.Test.YtaabfffpknkpeaaDoorPx8
import Derived.Test.YtaabfffpknkpeaaDoorPx10
import Derived.Test.YtaabfffpknkpeaaDoorQLogB
/- Plain facts on all records at the beginning of a text. -/
namespace Go.Proofs.YtaabfffpknkpeaaDoor.Q
open Go.RowKit Go.Proofs.YtaabfffpknkpeaaDoor.Px Go.Proofs.YtaabfffpknkpeaaDoor.Giv Go.Proofs.YtaabfffpknkpeaaDoorW.PrintWords Go.Proofs.YtaabfffpknkpeaaDoorW.PrintLast Go.Proofs.YtaabfffpknkpeaaDoorW.PrintMore
set_option linter.unusedVariables false
set_option linter.unusedSimpArgs false
attribute [local irreducible] encT sealT recT digs
open Classical in
/-- The record with a number at the beginning of a text, if there is one. -/
noncomputable def nx (s : ByteArray) (n : Nat) : Option (ByteArray × ByteArray) := if h : ∃ e : ByteArray × ByteArray, starts s n e.1 e.2 then some h.choose else none
theorem nx_some {s : ByteArray} {n : Nat} {c r : ByteArray} (h : starts s n c r) : nx s n = some (c, r) := by
  have h1 : ∃ e : ByteArray × ByteArray, starts s n e.1 e.2 := ⟨(c, r), h⟩
  unfold nx
  rw [dif_pos h1]
  obtain ⟨e1, e2⟩ := starts_one h1.choose_spec h
  exact congrArg some (Prod.ext e1 e2)
theorem nx_starts {s : ByteArray} {n : Nat} {e : ByteArray × ByteArray} (h : nx s n = some e) : starts s n e.1 e.2 := by
  unfold nx at h
  split at h
  · rename_i h1
    rw [← Option.some.inj h]
    exact h1.choose_spec
  · cases h
theorem nx_none {s : ByteArray} {n : Nat} (h : ∀ c r, ¬ starts s n c r) : nx s n = none := by
  cases hn : nx s n with
  | none => rfl
  | some e => exact absurd (nx_starts hn) (h e.1 e.2)
theorem nx_no {s : ByteArray} {n : Nat} (h : nx s n = none) : ∀ c r, ¬ starts s n c r := by
  intro c r h1
  rw [nx_some h1] at h
  cases h
theorem enc_le {s : ByteArray} {n : Nat} {c r : ByteArray} (h : starts s n c r) : 1 ≤ (encT n c r).size ∧ (encT n c r).size ≤ s.size := by
  have h1 := h.2.2.length_le
  rw [BL_len, BL_len] at h1
  exact ⟨(encT_size h.1 h.2.1).1, h1⟩
/-- All records at the beginning of a text, from a number on. -/
noncomputable def recs : Nat → ByteArray → Nat → List (ByteArray × ByteArray)
  | 0, _, _ => []
  | d + 1, s, n => match nx s n with
    | none => []
    | some e => e :: recs d (s.extract (encT n e.1 e.2).size s.size) (n + 1)
theorem recs_none {d : Nat} {s : ByteArray} {n : Nat} (h : nx s n = none) : recs d s n = [] := by
  cases d with
  | zero => rfl
  | succ d => simp only [recs, h]
theorem recs_some {d : Nat} {s : ByteArray} {n : Nat} {e : ByteArray × ByteArray} (h : nx s n = some e) : recs (d + 1) s n = e :: recs d (s.extract (encT n e.1 e.2).size s.size) (n + 1) := by
  simp only [recs, h]
theorem recs_length : ∀ (d : Nat) (s : ByteArray) (n : Nat), (recs d s n).length ≤ d
  | 0, s, n => Nat.le_refl _
  | d + 1, s, n => by
    cases h : nx s n with
    | none => rw [recs_none h]; exact Nat.zero_le _
    | some e =>
      rw [recs_some h, List.length_cons]
      have := recs_length d (s.extract (encT n e.1 e.2).size s.size) (n + 1)
      omega
/-- Where each of some records ends. -/
def ends : Nat → Nat → List (ByteArray × ByteArray) → List Nat
  | _, _, [] => []
  | a, n, e :: l => (a + (encT n e.1 e.2).size) :: ends (a + (encT n e.1 e.2).size) (n + 1) l
def total : Nat → List (ByteArray × ByteArray) → Nat
  | _, [] => 0
  | n, e :: l => (encT n e.1 e.2).size + total (n + 1) l
theorem ends_len : ∀ (l : List (ByteArray × ByteArray)) (a n : Nat), (ends a n l).length = l.length
  | [], _, _ => rfl
  | e :: l, a, n => by simp only [ends, List.length_cons, ends_len l]
theorem ends_last : ∀ (l : List (ByteArray × ByteArray)) (a n : Nat), (a :: ends a n l)[l.length]? = some (a + total n l)
  | [], a, n => rfl
  | e :: l, a, n => by
    have h := ends_last l (a + (encT n e.1 e.2).size) (n + 1)
    simp only [ends, total, List.length_cons, List.getElem?_cons_succ]
    rw [h]
    congr 1
    omega
theorem ends_le : ∀ (l : List (ByteArray × ByteArray)) (a n : Nat), ∀ x ∈ ends a n l, a ≤ x
  | [], _, _, x, h => by cases h
  | e :: l, a, n, x, h => by
    simp only [ends] at h
    rcases List.mem_cons.1 h with rfl | h
    · omega
    · have := ends_le l _ _ x h
      omega
theorem total_le : ∀ (d : Nat) (s : ByteArray) (n : Nat), total n (recs d s n) ≤ s.size
  | 0, s, n => Nat.zero_le _
  | d + 1, s, n => by
    cases h : nx s n with
    | none => rw [recs_none h]; exact Nat.zero_le _
    | some e =>
      have h1 := enc_le (nx_starts h)
      have h2 := total_le d (s.extract (encT n e.1 e.2).size s.size) (n + 1)
      rw [ByteArray.size_extract] at h2
      rw [recs_some h]
      simp only [total]
      omega
def natI (n : Nat) : Int := (n : Int)
def recS (e : ByteArray × ByteArray) : S27 := ⟨e.1, e.2⟩
theorem drop_extract (s : ByteArray) (i j : Nat) (h : i ≤ s.size) : (s.extract i s.size).extract j (s.extract i s.size).size = s.extract (i + j) s.size := by
  apply BL_inj
  rw [BL_suffix, BL_suffix, BL_suffix, List.drop_drop]
theorem nx60 (s : ByteArray) (n : Nat) (h : 60 ≤ n) : nx s n = none := nx_none (fun c r h1 => by have := h1.1; omega)
theorem recs_l0 (s : ByteArray) (hs : s.size ≤ 100000) : ∀ (d k a : Nat) (out : List S27) (es : List Int), a ≤ s.size → out.length + d = 60 → es.length = out.length + 1 → 250000 + d < k →
    impl_recordsOf.l0 (k + 1) s out es (a : Int) = some (out ++ (recs d (s.extract a s.size) out.length).map recS, es ++ (ends a out.length (recs d (s.extract a s.size) out.length)).map natI) := by
  intro d
  induction d with
  | zero =>
    intro k a out es ha hd he hk
    obtain ⟨c, r, code, ok, h1, h2⟩ := next_sound (s.extract a s.size) out.length (by rw [ByteArray.size_extract]; omega) k (by omega)
    have hok : ok = false := by
      cases ok with
      | false => rfl
      | true => exact absurd (h2 rfl).1.1 (by omega)
    subst hok
    rw [impl_recordsOf.l0, if_pos (by omega), if_pos (by omega), Int.toNat_natCast, h1, Option.bind_some]
    simp [recs, ends, natI]
  | succ d ih =>
    intro k a out es ha hd he hk
    have hz : (s.extract a s.size).size = s.size - a := by rw [ByteArray.size_extract, Nat.min_self]
    cases hn : nx (s.extract a s.size) out.length with
    | none =>
      obtain ⟨c, r, code, ok, h1, h2⟩ := next_sound (s.extract a s.size) out.length (by omega) k (by omega)
      have hok : ok = false := by
        cases ok with
        | false => rfl
        | true => exact absurd (h2 rfl).1 (nx_no hn c r)
      subst hok
      rw [impl_recordsOf.l0, if_pos (by omega), if_pos (by omega), Int.toNat_natCast, h1, Option.bind_some, recs_none hn]
      simp [ends, natI]
    | some e =>
      have hst := nx_starts hn
      have h1 := enc_le hst
      have hw : wrap64 ((a : Int) + ((encT out.length e.1 e.2).size : Int)) = ((a + (encT out.length e.1 e.2).size : Nat) : Int) := by
        have h_ := wrap_id ((a : Int) + ((encT out.length e.1 e.2).size : Int)) (by omega) (by omega)
        omega
      obtain ⟨k, rfl⟩ : ∃ m, k = m + 1 := ⟨k - 1, by omega⟩
      have hrec := ih k (a + (encT out.length e.1 e.2).size) (out ++ [recS e]) (es ++ [((a + (encT out.length e.1 e.2).size : Nat) : Int)]) (by omega) (by rw [List.length_append, List.length_singleton]; omega)
      rw [impl_recordsOf.l0, if_pos (by omega), if_pos (by omega), Int.toNat_natCast, next_comp hst (by omega) (k + 1) (by omega), Option.bind_some]
      simp only [if_true]
      rw [if_pos (by omega), if_pos (by omega), hw]
      have hrec := hrec (by rw [List.length_append, List.length_append, List.length_singleton]; rw [List.length_singleton]; omega) (by omega)
      rw [List.length_append, List.length_singleton] at hrec
      show impl_recordsOf.l0 (k + 1) s (out ++ [recS e]) _ _ = _
      rw [hrec, recs_some hn, drop_extract s a _ ha]
      simp [ends, natI]
theorem recordsOf_f (s : ByteArray) (hs : s.size ≤ 100000) (k : Nat) (hk : 250100 < k) : impl_recordsOf.f k s = some ((recs 60 s 0).map recS, ((0 :: ends 0 0 (recs 60 s 0)).map natI)) := by
  obtain ⟨k, rfl⟩ : ∃ m, k = m + 1 := ⟨k - 1, by omega⟩
  have h := recs_l0 s hs 60 k 0 [] [0] (by omega) rfl rfl (by omega)
  have e : s.extract 0 s.size = s := by apply BL_inj; rw [BL_prefix, List.take_of_length_le (by rw [BL_len]; omega)]
  unfold impl_recordsOf.f
  rw [show (0 : Int) = ((0 : Nat) : Int) from rfl]
  rw [show (([((0 : Nat) : Int)] : List Int)) = [0] from rfl, h, e]
  rfl
theorem open_l0 (s : ByteArray) (hs : s.size ≤ 100000) : ∀ (d k a : Nat) (out : List S27), a ≤ s.size → out.length + d = 60 → 250000 + 2 * d < k →
    spec_l12Open.l0 (k + 2) s out (a : Int) = some (out ++ (recs d (s.extract a s.size) out.length).map recS, ((a + total out.length (recs d (s.extract a s.size) out.length) : Nat) : Int)) := by
  intro d
  induction d with
  | zero =>
    intro k a out ha hd hk
    rw [spec_l12Open.l0]
    have e : decide ((out.length : Int) < 60) = false := decide_eq_false (by omega)
    by_cases h0 : (a : Int) < (s.size : Int)
    · rw [if_pos h0, e, spec_l12Open.j1, if_neg (by simp)]
      simp [recs, total]
    · rw [if_neg h0, spec_l12Open.j1, if_neg (by simp)]
      simp [recs, total]
  | succ d ih =>
    intro k a out ha hd hk
    have hz : (s.extract a s.size).size = s.size - a := by rw [ByteArray.size_extract, Nat.min_self]
    rw [spec_l12Open.l0]
    by_cases h0 : (a : Int) < (s.size : Int)
    · have e : decide ((out.length : Int) < 60) = true := decide_eq_true (by omega)
      obtain ⟨rest, hr1, hr2⟩ := split_f (s.extract a s.size) 10 10 rfl (by omega) k (by omega)
      have e0 : rdOf ByteArray.empty (headB (s.extract a s.size) 10 :: rest) 0 = headB (s.extract a s.size) 10 := rfl
      rw [if_pos h0, e, spec_l12Open.j1, if_pos rfl, if_pos (by omega), if_pos (by omega), Int.toNat_natCast, hr1, Option.bind_some]
      simp only [e0]
      have hz2 := (headB_size (s.extract a s.size) 10).1
      rw [if_pos (show 0 < ((headB (s.extract a s.size) 10 :: rest).length : Int) from Int.natCast_pos.2 (Nat.succ_pos _))]
      cases hn : nx (s.extract a s.size) out.length with
      | none =>
        obtain ⟨c, r, ok, h1, h2⟩ := decode_sound (headB (s.extract a s.size) 10) out.length (by omega) (by omega) k (by omega)
        rw [h1, Option.bind_some, recs_none hn]
        by_cases h3 : rest = []
        · rw [if_pos (by subst h3; simp)]
          simp [total]
        · have hb : hasB (s.extract a s.size) 10 = true := by
            cases hb : hasB (s.extract a s.size) 10 with
            | true => rfl
            | false => exact absurd (hr2.2 hb) h3
          have hok : ok = false := by
            cases ok with
            | false => rfl
            | true =>
              obtain ⟨h4, h5⟩ := h2 rfl
              refine absurd ⟨by omega, h4, ?_⟩ (nx_no hn c r)
              rw [h5, BL_append, lit_bytes, (headB_split hb).1]
              exact ⟨BL (tailB (s.extract a s.size) 10), by simp⟩
          subst hok
          rw [if_neg (by
            cases rest with
            | nil => exact absurd rfl h3
            | cons x l => simp only [List.length_cons]; omega)]
          simp [total]
      | some e =>
        have hst := nx_starts hn
        have h1 := enc_le hst
        obtain ⟨l1, l2⟩ := line_of_enc hst
        have h3 : rest ≠ [] := fun h4 => by rw [hr2.1 h4] at l2; cases l2
        have hsz := encT_seal out.length e.1 e.2
        have g0 : a + (sealT (recT out.length e.1 e.2)).size ≤ 1099511627776 := by omega
        obtain ⟨k, rfl⟩ : ∃ m, k = m + 2 := ⟨k - 2, by omega⟩
        have hrec := ih k (a + (encT out.length e.1 e.2).size) (out ++ [recS e]) (by omega) (by rw [List.length_append, List.length_singleton]; omega) (by omega)
        rw [List.length_append, List.length_singleton] at hrec
        have g3 : ¬ (((sealT (recT out.length e.1 e.2) :: rest).length : Int) < 2) := by
          cases rest with
          | nil => exact absurd rfl h3
          | cons x l => simp only [List.length_cons]; omega
        have g4 : out.length < 4398046511104 := by omega
        rw [l1, decode_comp hst.1 hst.2.1 (k + 2) (by omega), Option.bind_some, if_neg g3, if_pos rfl, if_pos g4, wrap_add a (sealT (recT out.length e.1 e.2)).size g0, wrap_succ _ g0, Nat.add_assoc, ← hsz]
        show spec_l12Open.l0 (k + 2) s (out ++ [recS e]) _ = _
        rw [hrec, recs_some hn, drop_extract s a _ ha]
        simp only [List.map_cons, List.append_assoc, List.cons_append, List.nil_append, total]
        rw [Nat.add_assoc]
    · have hsm : ∀ c r, ¬ starts (s.extract a s.size) out.length c r := by
        intro c r h1
        have := enc_le h1
        omega
      rw [if_neg h0, spec_l12Open.j1, if_neg (by simp), recs_none (nx_none hsm)]
      simp [total]
theorem open_f (s : ByteArray) (hs : s.size ≤ 100000) (k : Nat) (hk : 250200 < k) : spec_l12Open.f k s = some ((recs 60 s 0).map recS, ((total 0 (recs 60 s 0) : Nat) : Int)) := by
  obtain ⟨k, rfl⟩ : ∃ m, k = m + 2 := ⟨k - 2, by omega⟩
  have h := open_l0 s hs 60 k 0 [] (by omega) rfl (by omega)
  have e : s.extract 0 s.size = s := by apply BL_inj; rw [BL_prefix, List.take_of_length_le (by rw [BL_len]; omega)]
  unfold spec_l12Open.f
  rw [show (0 : Int) = ((0 : Nat) : Int) from rfl, h, e, Nat.zero_add]
  rfl
theorem starts_more {s t : ByteArray} {n : Nat} {c r : ByteArray} (h : starts s n c r) (hp : BL s <+: BL t) : starts t n c r := ⟨h.1, h.2.1, h.2.2.trans hp⟩
theorem starts_less {s t : ByteArray} {n : Nat} {c r : ByteArray} (h : starts t n c r) (hp : BL s <+: BL t) (hl : (encT n c r).size ≤ s.size) : starts s n c r := by
  refine ⟨h.1, h.2.1, ?_⟩
  exact List.prefix_of_prefix_length_le h.2.2 hp (by rw [BL_len, BL_len]; exact hl)
theorem kept_iff : ∀ (d a n : Nat) (s t : ByteArray), BL s <+: BL t → (total n (recs d s n) = s.size ↔ a + s.size ∈ a :: ends a n (recs d t n))
  | 0, a, n, s, t, hp => by
    simp only [recs, total, ends, List.mem_singleton]
    omega
  | d + 1, a, n, s, t, hp => by
    cases hn : nx t n with
    | none =>
      have hs : nx s n = none := nx_none (fun c r h1 => nx_no hn c r (starts_more h1 hp))
      rw [recs_none hn, recs_none hs]
      simp only [total, ends, List.mem_singleton]
      omega
    | some e =>
      have hst := nx_starts hn
      have h1 := enc_le hst
      rw [recs_some hn]
      simp only [ends]
      by_cases hl : (encT n e.1 e.2).size ≤ s.size
      · have hs := nx_some (starts_less hst hp hl)
        have hp2 : BL (s.extract (encT n e.1 e.2).size s.size) <+: BL (t.extract (encT n e.1 e.2).size t.size) := by
          rw [BL_suffix, BL_suffix]
          obtain ⟨u, hu⟩ := hp
          rw [← hu, List.drop_append_of_le_length (by rw [BL_len]; exact hl)]
          exact List.prefix_append _ _
        have ih := kept_iff d (a + (encT n e.1 e.2).size) (n + 1) _ _ hp2
        have hz : (s.extract (encT n e.1 e.2).size s.size).size = s.size - (encT n e.1 e.2).size := by rw [ByteArray.size_extract, Nat.min_self]
        have e1 : a + (encT n e.1 e.2).size + (s.size - (encT n e.1 e.2).size) = a + s.size := by omega
        rw [hz, e1] at ih
        rw [recs_some (show nx s n = some e from hs)]
        simp only [total]
        rw [List.mem_cons, ← ih]
        constructor
        · intro h2; exact .inr (by omega)
        · rintro (h2 | h2)
          · omega
          · omega
      · have hs : nx s n = none := nx_none (fun c r h2 => by
          obtain ⟨e1, e2⟩ := starts_one (starts_more h2 hp) hst
          have := enc_le h2
          rw [e1, e2] at this
          omega)
        rw [recs_none hs]
        simp only [total]
        rw [List.mem_cons]
        constructor
        · intro h2; exact .inl (by omega)
        · rintro (h2 | h2)
          · omega
          · rcases List.mem_cons.1 h2 with h2 | h2
            · omega
            · have := ends_le _ _ _ _ h2
              omega
end Go.Proofs.YtaabfffpknkpeaaDoor.Q
