import Derived.Test.YtgifhmjbmnopcaaPx0
import Derived.Deep.RegionLaw
import Derived.Laws.CopyOwn
namespace Go.Proofs.Ytgifhmjbmnopcaa.Giv
set_option linter.unusedVariables false
set_option linter.unusedSimpArgs false
open Go.RowKit Go.Proofs.YtgifhmjbmnopcaaW.PrintWords Go.Proofs.YtgifhmjbmnopcaaW.PrintLast Go.Proofs.YtgifhmjbmnopcaaW.PrintMore Go.Proofs.Ytgifhmjbmnopcaa.Px
theorem and_low (n : Int) (h0 : 0 ≤ n) (h1 : n ≤ 4294967295) : bits .and .u64 n 4294967295 = n := by
  rw [u64_and n 4294967295 h0 (by omega) (by omega) (by omega)]
  have : (4294967295 : Int).toNat = 2 ^ 32 - 1 := rfl
  rw [this, Nat.and_two_pow_sub_one_eq_mod]
  have : n.toNat % 2 ^ 32 = n.toNat := Nat.mod_eq_of_lt (by omega)
  omega
theorem u64_small (n : Int) (h0 : 0 ≤ n) (h1 : n ≤ 65535) : IntKind.u64.wrap n = n := by
  unfold IntKind.wrap; simp [IntKind.signed, IntKind.bits]; omega
theorem mul_calls (n : Int) (w : World) (h0 : 0 ≤ n) (h1 : n ≤ 65535) :
    Calls Try.prog 97 #[.int .u64 1, .int .u64 n] w fun e w' => e = .returned (.tuple #[.int .u64 0, .int .u64 n]) ∧ w = w' := by
  have ha := and_low n h0 (by omega)
  have ha1 := and_low 1 (by omega) (by omega)
  have ha0 := and_low 0 (by omega) (by omega)
  have hw := u64_small n h0 h1
  have hw0 := u64_small 0 (by omega) (by omega)
  have hd : n / 4294967296 = 0 := by omega
  go_enter Try.func97, Try.ntmps97
  go_wp2
  go_ret2
  exact ⟨rfl, rfl⟩
theorem splice_rep (m k c : Nat) (x : Value) (z : Value) (h : k + c ≤ m) : splice (List.replicate k x ++ List.replicate (m - k) z) k (List.replicate c x) = List.replicate (k + c) x ++ List.replicate (m - (k + c)) z := by
  unfold splice
  rw [List.take_left' (by simp), List.length_replicate, List.drop_append]
  rw [List.drop_of_length_le (by simp), List.length_replicate, List.nil_append, List.drop_replicate, ← List.append_assoc, List.replicate_append_replicate]
  congr 2
  omega
theorem splice_rep0 (m c : Nat) (x : Value) (z : Value) (h : c ≤ m) : splice (List.replicate m z) 0 (List.replicate c x) = List.replicate c x ++ List.replicate (m - c) z := by
  have := splice_rep m 0 c x z (by omega)
  simpa using this
def RepCells (g m : Nat) (k : Nat) (x : Int) (w' : World) : Prop := w'.heap[g]? = some (.cells (List.replicate k (Value.int .i64 x) ++ List.replicate (m - k) (Value.int .i64 0)).toArray 3 (0, 0))
theorem RepCells.own {g m : Nat} {x : Int} {w w' : World} (h : RepCells g m m x w') (hg : w.heap.size ≤ g) (hm : m ≤ 65535) : Kd.R (Kd.int .i64) 3 w' w.heap.size (fun _ => True) (.slice (some ⟨g, 0, none⟩) m m) (List.replicate m x) := by
  refine Kd.R_of_own (enc := Value.int .i64) ?_ (fun _ _ => trivial)
  refine ⟨by simp [encs], .inr ⟨g, m, (List.replicate m (Value.int .i64 x)).toArray, by simp, hg, ?_, by simp, by unfold maxLen; omega, by simp, by simp [encs]⟩⟩
  unfold RepCells at h
  rw [h]
  simp
theorem RepCells.cell {g m k : Nat} {x : Int} {w' : World} (h : RepCells g m k x w') (j : Nat) (hj : j < k) : w'.cell? ⟨g, j, none⟩ = some (.int .i64 x) := by
  unfold RepCells at h
  have hlt := (Array.getElem?_eq_some_iff.1 h).1
  unfold World.cell?
  rw [h]
  simp [List.getElem?_append_left (show j < (List.replicate k (Value.int IntKind.i64 x)).length by simpa using hj), hj]
theorem RepCells.pos {g m k : Nat} {x : Int} {w' : World} (h : RepCells g m k x w') (c : Nat) (hc : c ≤ k) : ∀ (j : Nat) (v : Value), (List.replicate c (Value.int .i64 x))[j]? = some v → w'.cell? ((⟨g, 0, none⟩ : Addr).add j) = some v := by
  intro j v hj
  rw [List.getElem?_replicate] at hj
  split at hj
  · rename_i hlt
    rw [add_plain, h.cell j (by omega)]
    exact hj
  · cases hj
theorem Repeat_calls (A0 : Option Addr) (c0 : Nat) (x : Int) (m : Nat) (w : World) (hr0 : Kd.C (Kd.int .i64) w A0 1 [x]) (hm : m ≤ 65535) :
    Calls Try.prog 86 #[.slice A0 1 c0, .int .i64 (m : Int)] w fun e w' => ∃ v0_ : Value, e = .returned (v0_) ∧ Kd.R (Kd.int .i64) 3 w' w.heap.size (fun _ => True) v0_ (List.replicate m x) ∧ Below w.heap.size w w' := by
  have hmk := print_make (P := Try.prog) 22 3 .i64 8 Try.underlying22 info3 (by decide) m (by omega)
  have hw := u64_small m (by omega) (by omega)
  have hw1 := u64_small 1 (by omega) (by omega)
  have hneg : decide ((m : Int) < 0) = false := decide_eq_false (by omega)
  obtain ⟨ad, ea, hx⟩ := Kd.at_int hr0 0 (by omega) (by omega)
  have HX := Aside0.mk hx
  have EA := Aside0.mk ea
  clear hx ea hr0
  have hcells : (madeCells #[Value.int .i64 0] m) = (List.replicate m (Value.int .i64 0)).toArray := by
    apply Array.ext
    · simp [madeCells]
    · intro i h1 h2
      simp [madeCells, Nat.mod_one]
  have HCells := Aside0.mk hcells
  clear hcells
  go_enter Try.func86, Try.ntmps86
  go_wp2_with (first | (go_at_call 97; refine (mul_calls _ _ (by omega) (by omega)).mono ?_; rintro e w' ⟨rfl, rfl⟩) | (with_reducible refine wpList_copy_splice rfl (.tmp 31) (.tmp 32) 22 22 rfl 3 Try.underlying22 (by kernel_rfl) (some ⟨w.heap.size, 0, none⟩) A0 m m 1 c0 rfl rfl w.heap.size 0 (List.replicate m (.int .i64 0)) 3 ?hg (List.replicate (Nat.min 1 m) (.int .i64 x)) ?hn ?hpos ?hfit ?h1 w.heap.size w ?hb ?hBg ?_))
  case hg => rw [← HCells.out]; exact heap_alloc_new _ _
  case hn => simp
  case hpos =>
    intro _
    first | refine ⟨rfl, ad, EA.out, ?_⟩ | refine ⟨ad, EA.out, ?_⟩
    intro j v hj
    rw [List.getElem?_replicate] at hj
    split at hj
    · rename_i hlt
      have hlt1 : j < 1 := Nat.lt_of_lt_of_le hlt (Nat.min_le_left 1 m)
      have : j = 0 := by omega
      subst this
      rw [← hj]
      exact (World.cell?_alloc_lt _ _ _ (World.block_lt_of_cell? w _ HX.out)).trans HX.out
    · cases hj
  case hfit => rw [List.length_replicate, List.length_replicate, Nat.zero_add]; exact Nat.min_le_right _ _
  case h1 => intro v hv; rw [List.mem_replicate] at hv; rw [hv.2]; rfl
  case hb => exact below_alloc (Below.refl _ _) _
  case hBg => exact Nat.le_refl _
  intro w2 hg2 hb2
  have HG : RepCells w.heap.size m (Nat.min 1 m) x w2 := by
    have := hg2.out
    rw [splice_rep0 m (Nat.min 1 m) _ _ (Nat.min_le_right _ _)] at this
    exact this
  have HGA := Aside0.mk HG
  have HBA := Aside0.mk hb2
  clear hg2 hb2 HG
  have HM : Aside0 (Nat.min 1 m ≤ m ∧ (1 ≤ Nat.min 1 m ∨ m = 0)) := ⟨⟨Nat.min_le_right _ _, by rcases Nat.eq_zero_or_pos m with h | h; exact .inr h; exact .inl (Nat.le_min.2 ⟨Nat.le_refl _, h⟩)⟩⟩
  generalize Nat.min 1 m = k0 at HGA HM ⊢
  go_wp2
  go_loopw [8] (fun v w' => ∃ k : Nat, v = .int .i64 (k : Int) ∧ k ≤ m ∧ Aside0 (1 ≤ k ∨ m = 0) ∧ Aside0 (RepCells w.heap.size m k x w') ∧ Aside0 (Below w.heap.size w w')) (fun v w' => m - (intOf v).toNat)
  case atStart => exact ⟨k0, rfl, HM.out.1, ⟨HM.out.2⟩, HGA, HBA⟩
  case round =>
    clear HGA HBA HM
    obtain ⟨k, rfl, hk, HK, HG, HB⟩ := hrel
    by_cases hlt : k < m
    · have h1k : 1 ≤ k := by rcases HK.out with h | h <;> omega
      have hltb : decide (k < m) = true := decide_eq_true hlt
      obtain ⟨c, HC1, hc2, hc3, hc4⟩ : ∃ c, Aside0 (c = Nat.min k (m - k)) ∧ 1 ≤ c ∧ c ≤ k ∧ c ≤ m - k := ⟨_, ⟨rfl⟩, Nat.le_min.2 ⟨h1k, by omega⟩, Nat.min_le_left _ _, Nat.min_le_right _ _⟩
      have HMin : Aside0 ((List.replicate c (Value.int .i64 x)).length = Nat.min k (m - k)) := ⟨by rw [List.length_replicate]; exact HC1.out⟩
      have HG2 := Aside0.mk (HG.out.pos c hc3)
      have HS := Aside0.mk (splice_rep m k c (Value.int .i64 x) (Value.int .i64 0) (by omega))
      have HNe : Aside0 (¬ m = k) := ⟨by omega⟩
      have hwk : IntKind.i64.wrap ((k : Int) + (c : Int)) = ((k + c : Nat) : Int) := by rw [IntWalk.i64_in _ (by omega)]; rfl
      go_wp2
      go_region_law (refine step_copy_splice rfl (.tmp 41) (.tmp 44) 22 22 rfl 3 Try.underlying22 (by kernel_rfl) (some ⟨w.heap.size, k, none⟩) (some ⟨w.heap.size, 0, none⟩) (m - k) (m - k) k m (by simp [Act.eval, Act.put, HNe.out]) (by simp [Act.eval, Act.put]) w.heap.size k (List.replicate k (Value.int .i64 x) ++ List.replicate (m - k) (Value.int .i64 0)) 3 HG.out (List.replicate c (Value.int .i64 x)) HMin.out (fun _ => ⟨rfl, _, rfl, HG2.out⟩) (by simp; omega) (by intro v hv; rw [List.mem_replicate] at hv; rw [hv.2]; rfl) w.heap.size w (below_drew1 HB.out) (Nat.le_refl _) ?_; intro w4 hg4 hb4; rw [HS.out] at hg4; have HG4 := Aside0.mk hg4.out; have HB4 := Aside0.mk hb4; clear hg4 hb4)
      all_goals go_wp2
      go_roundw
      case measure => simp [intOf]; omega
      case rel =>
        first | exact ⟨k + c, by simp, by omega, ⟨by omega⟩, HG4⟩ | exact ⟨k + c, by simp, by omega, ⟨by omega⟩, HG4, HB4⟩
    · have hkm : k = m := by omega
      subst hkm
      have hltb : decide (k < k) = false := decide_eq_false hlt
      go_wp2
      go_ret
      exact ⟨_, rfl, HG.out.own (Nat.le_refl _) hm, HB.out⟩
def slices_Repeat_int_int.f (l0 : List Int) (a1 : Int) : Option (List Int) := if l0.length = 1 then (if 0 ≤ a1 ∧ a1 ≤ 65535 then some (List.replicate a1.toNat (rd l0 0)) else none) else none
theorem slices_Repeat_int_int.calls (A0 : Option Addr) (c0 : Nat) (l0 : List Int) (a1 : Int) (r : List Int) (w : World) (hr0 : Kd.C (Kd.int .i64) w A0 l0.length l0) (hc0 : l0.length ≤ c0) (h : slices_Repeat_int_int.f l0 a1 = some r) :
    Calls Try.prog 86 #[.slice A0 l0.length c0, .int .i64 a1] w fun e w' => ∃ v0_ : Value, e = .returned (v0_) ∧ Kd.R (Kd.int .i64) 3 w' w.heap.size (fun _ => True) v0_ r ∧ Below w.heap.size w w' := by
  unfold slices_Repeat_int_int.f at h
  split at h
  · rename_i h1
    split at h
    · rename_i h2
      obtain rfl := Option.some.inj h
      match l0, h1 with
      | [x], _ =>
        obtain ⟨m, rfl⟩ := Int.eq_ofNat_of_zero_le h2.1
        exact Repeat_calls A0 c0 x m w hr0 (by omega)
    · cases h
  · cases h
end Go.Proofs.Ytgifhmjbmnopcaa.Giv
