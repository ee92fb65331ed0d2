import Derived.Test.YtgifhmjbmnopcaaQLeast
import Derived.Test.YtgifhmjbmnopcaaGivTab
namespace Go.Proofs.Ytgifhmjbmnopcaa.Giv
set_option linter.unusedVariables false
set_option linter.unusedSimpArgs false
open Go.RowKit Go.Proofs.YtgifhmjbmnopcaaW.PrintWords Go.Proofs.YtgifhmjbmnopcaaW.PrintLast Go.Proofs.YtgifhmjbmnopcaaW.PrintMore Go.Proofs.Ytgifhmjbmnopcaa.Px Go.Proofs.Ytgifhmjbmnopcaa.Q
theorem below_cellOf {w w' : World} (h : Below w.heap.size w w') {a : Addr} {v : Value} (hc : w.cell? a = some v) : w'.cell? a = some v := by
  rw [h.cell (block_lt_of_cell hc)]
  exact hc
set_option maxHeartbeats 4000000 in
set_option maxRecDepth 100000 in
theorem matters_calls (T : Int → Bool) (x : Int) (w : World) (h1 : 1 ≤ x) (h2 : x ≤ 6) :
    Calls Try.prog 89 #[.agg (tabA T), .int .i64 x] w fun e w' => e = .returned (.bool (exB (matP T x) 64)) ∧ Below w.heap.size w w' := by
  have HN := Aside0.mk (nb_f h1 h2)
  obtain ⟨TA, hTA⟩ : ∃ TA, TA = tabA T := ⟨_, rfl⟩
  have HTat : Aside0 (∀ i : Nat, i < 64 → TA[i]? = some (.bool (T (i : Nat)))) := ⟨fun i hi => by rw [hTA]; exact tabA_at T i hi⟩
  rw [← hTA]
  have HBX := Aside0.mk (blk_new w (.cells TA 49))
  have HB0 := Aside0.mk (below_alloc (Below.refl w.heap.size w) (.cells TA 49))
  obtain ⟨R, hR⟩ : ∃ R, R = exB (matP T x) 64 := ⟨_, rfl⟩
  rw [← hR]
  have HR := Aside0.mk hR
  clear hTA hR
  go_enter Try.func89, Try.ntmps89
  go_wp2
  go_loopw [6] (fun v w' => ∃ i : Nat, v = .int .i64 (i : Nat) ∧ i ≤ 64 ∧ Aside0 (exB (matP T x) i = false) ∧ Aside0 (w'.heap[w.heap.size]? = some (.cells TA 49 (0, 0))) ∧ Aside0 (Below w.heap.size w w')) (fun v w' => (64 - intOf v).toNat)
  case atStart => exact ⟨0, rfl, by omega, ⟨rfl⟩, ⟨HBX.out⟩, ⟨HB0.out⟩⟩
  case round =>
    obtain ⟨i, rfl, hi, HA, HBL, HB⟩ := hrel
    by_cases hlt : i < 64
    · have hltb : decide ((i : Int) < 64) = true := decide_eq_true (by omega)
      have k1 : (0 ≤ (i : Int)) = True := eq_true (by omega)
      have k2 : ((i : Int) < 64) = True := eq_true (by omega)
      have cT := (blk_cell HBL.out i).trans (HTat.out i hlt)
      have hnx := (tab_at (s := (i : Int)) (by omega) (by omega) h1 h2).1
      obtain ⟨t, ht⟩ := Int.eq_ofNat_of_zero_le hnx.1
      have ho : Go.bits .or .i64 (i : Int) (nb x) = (t : Int) := ht
      have ht63 : t < 64 := by rw [ht] at hnx; omega
      have k3 : (0 ≤ (t : Int)) = True := eq_true (by omega)
      have k4 : ((t : Int) < 64) = True := eq_true (by omega)
      have cN := (blk_cell HBL.out t).trans (HTat.out t ht63)
      have HPI : Aside0 (matP T x i = (freeB (i : Int) x && (!T (i : Int) && T (t : Int)))) := ⟨by unfold matP; rw [ht]⟩
      have HES := Aside0.mk (exB_succ (matP T x) i)
      have HET := Aside0.mk (exB_true (matP T x) 64 i hlt)
      clear hnx ht
      cases hf : freeB (i : Int) x with
      | false =>
        have hf2 : (Go.bits .and .i64 (i : Int) (nb x) == 0) = false := hf
        have HF := Aside0.mk hf
        clear hf
        go_wp2_with (first | (go_at_call 73; refine (impl_nailBit.calls x (nb x) _ HN.out).mono ?_; rintro e wq ⟨rfl, hbq⟩; have cT := below_cellOf hbq cT; have cN := below_cellOf hbq cN; have HBL := Aside0.mk (blk_below HBL.out hbq); have HB := Aside0.mk (below_step HB.out hbq); clear hbq))
        go_roundw
        case measure => simp [intOf]; omega
        case rel => exact ⟨i + 1, by go_num, by omega, ⟨by rw [HES.out, HA.out, HPI.out, HF.out]; rfl⟩, ⟨HBL.out⟩, ⟨HB.out⟩⟩
      | true =>
        have hf2 : (Go.bits .and .i64 (i : Int) (nb x) == 0) = true := hf
        have HF := Aside0.mk hf
        clear hf
        cases hT : T (i : Int) with
        | true =>
          have HT1 := Aside0.mk hT
          rw [hT] at cT
          clear hT
          go_wp2_with (first | (go_at_call 73; refine (impl_nailBit.calls x (nb x) _ HN.out).mono ?_; rintro e wq ⟨rfl, hbq⟩; have cT := below_cellOf hbq cT; have cN := below_cellOf hbq cN; have HBL := Aside0.mk (blk_below HBL.out hbq); have HB := Aside0.mk (below_step HB.out hbq); clear hbq))
          go_roundw
          case measure => simp [intOf]; omega
          case rel => exact ⟨i + 1, by go_num, by omega, ⟨by rw [HES.out, HA.out, HPI.out, HF.out, HT1.out]; rfl⟩, ⟨HBL.out⟩, ⟨HB.out⟩⟩
        | false =>
          have HT1 := Aside0.mk hT
          rw [hT] at cT
          clear hT
          cases hT2 : T (t : Int) with
          | false =>
            have HT2 := Aside0.mk hT2
            rw [hT2] at cN
            clear hT2
            go_wp2_with (first | (go_at_call 73; refine (impl_nailBit.calls x (nb x) _ HN.out).mono ?_; rintro e wq ⟨rfl, hbq⟩; have cT := below_cellOf hbq cT; have cN := below_cellOf hbq cN; have HBL := Aside0.mk (blk_below HBL.out hbq); have HB := Aside0.mk (below_step HB.out hbq); clear hbq))
            go_roundw
            case measure => simp [intOf]; omega
            case rel => exact ⟨i + 1, by go_num, by omega, ⟨by rw [HES.out, HA.out, HPI.out, HF.out, HT1.out, HT2.out]; rfl⟩, ⟨HBL.out⟩, ⟨HB.out⟩⟩
          | true =>
            have HT2 := Aside0.mk hT2
            rw [hT2] at cN
            clear hT2
            go_wp2_with (first | (go_at_call 73; refine (impl_nailBit.calls x (nb x) _ HN.out).mono ?_; rintro e wq ⟨rfl, hbq⟩; have cT := below_cellOf hbq cT; have cN := below_cellOf hbq cN; have HBL := Aside0.mk (blk_below HBL.out hbq); have HB := Aside0.mk (below_step HB.out hbq); clear hbq))
            go_ret
            exact ⟨by rw [HR.out, HET.out (by rw [HPI.out, HF.out, HT1.out, HT2.out]; rfl)]; rfl, HB.out⟩
    · have hltb : decide ((i : Int) < 64) = false := decide_eq_false (by omega)
      go_wp2
      go_ret
      have hi2 : i = 64 := by omega
      rw [hi2] at HA
      exact ⟨by rw [HR.out, HA.out]; rfl, HB.out⟩
set_option maxHeartbeats 4000000 in
set_option maxRecDepth 100000 in
theorem mattering_calls (T : Int → Bool) (w : World) :
    Calls Try.prog 72 #[.agg (tabA T)] w fun e w' => e = .returned (.int .i64 (matI T 6)) ∧ Below w.heap.size w w' := by
  have HMT := fun (j : Nat) (hj : j < 6) (W : World) => matters_calls T ((j + 1 : Nat) : Int) W (by omega) (by omega)
  have hTs := tabA_size T
  obtain ⟨TA, hTA⟩ : ∃ TA, TA = tabA T := ⟨_, rfl⟩
  simp only [← hTA] at HMT hTs ⊢
  have HTs := Aside0.mk hTs
  have HMT := Aside0.mk HMT
  have HBX := Aside0.mk (blk_new w (.cells TA 49))
  have HB0 := Aside0.mk (below_alloc (Below.refl w.heap.size w) (.cells TA 49))
  obtain ⟨R, hR⟩ : ∃ R, R = matI T 6 := ⟨_, rfl⟩
  rw [← hR]
  have HR := Aside0.mk hR
  clear hTA hTs hR
  go_enter Try.func72, Try.ntmps72
  go_wp2
  go_loopg [3, 4] 6 (fun gg v3 v4 w' => ∃ j : Nat, v3 = .int .i64 (matI T j) ∧ v4 = .int .i64 ((j + 1 : Nat) : Int) ∧ j ≤ 6 ∧ 6 - j ≤ gg ∧ Aside0 (w'.heap[w.heap.size]? = some (.cells TA 49 (0, 0))) ∧ Aside0 (Below w.heap.size w w'))
  case atStart => exact ⟨0, rfl, rfl, by omega, by omega, ⟨HBX.out⟩, ⟨HB0.out⟩⟩
  case round =>
    obtain ⟨j, rfl, rfl, hj, hgg, HBL, HB⟩ := hrel
    by_cases hlt : j < 6
    · have hltb : decide (((j + 1 : Nat) : Int) ≤ 6) = true := decide_eq_true (by omega)
      have HN := Aside0.mk (nb_f (x := ((j + 1 : Nat) : Int)) (by omega) (by omega))
      have HMJ := Aside0.mk (HMT.out j hlt)
      have hstep : matI T (j + 1) = if exB (matP T ((j + 1 : Nat) : Int)) 64 = true then nextI (matI T j) ((j + 1 : Nat) : Int) else matI T j := rfl
      have HS := Aside0.mk hstep
      clear hstep
      obtain ⟨x, hx⟩ : ∃ x, x = ((j + 1 : Nat) : Int) := ⟨_, rfl⟩
      rw [← hx] at hltb HN HMJ HS ⊢
      have hxb : 1 ≤ x ∧ x ≤ 6 := by omega
      have HXJ := Aside0.mk hx
      clear hx
      cases he : exB (matP T x) 64 with
      | false =>
        rw [he] at HMJ HS
        clear he
        go_wp2_with (first | ((with_reducible refine gate_ (.load 49 (.tmp 1)) rfl ?_); refine wpList_load_row rfl 49 (.tmp 1) rfl w.heap.size rfl _ _ _ _ HBL.out Try.underlying49 rfl (by rw [HTs.out]; kernel_rfl) ?_) | (go_at_call 89; refine (HMJ.out _).mono ?_; rintro e wq ⟨rfl, hbq⟩; have HBL := Aside0.mk (blk_below HBL.out hbq); have HB := Aside0.mk (below_step HB.out hbq); clear hbq))
        go_roundg (6 - (j + 1))
        case measure => omega
        case rel => exact ⟨j + 1, by rw [HS.out]; rfl, by rw [HXJ.out]; rfl, by omega, by omega, ⟨HBL.out⟩, ⟨HB.out⟩⟩
      | true =>
        rw [he] at HMJ HS
        clear he
        go_wp2_with (first | ((with_reducible refine gate_ (.load 49 (.tmp 1)) rfl ?_); refine wpList_load_row rfl 49 (.tmp 1) rfl w.heap.size rfl _ _ _ _ HBL.out Try.underlying49 rfl (by rw [HTs.out]; kernel_rfl) ?_) | (go_at_call 89; refine (HMJ.out _).mono ?_; rintro e wq ⟨rfl, hbq⟩; have HBL := Aside0.mk (blk_below HBL.out hbq); have HB := Aside0.mk (below_step HB.out hbq); clear hbq) | (go_at_call 73; refine (impl_nailBit.calls x (nb x) _ HN.out).mono ?_; rintro e wq ⟨rfl, hbq⟩; have HBL := Aside0.mk (blk_below HBL.out hbq); have HB := Aside0.mk (below_step HB.out hbq); clear hbq))
        go_roundg (6 - (j + 1))
        case measure => omega
        case rel => exact ⟨j + 1, by rw [HS.out]; rfl, by rw [HXJ.out]; rfl, by omega, by omega, ⟨HBL.out⟩, ⟨HB.out⟩⟩
    · have hltb : decide (((j + 1 : Nat) : Int) ≤ 6) = false := decide_eq_false (by omega)
      go_wp2
      go_ret
      have hj2 : j = 6 := by omega
      subst hj2
      exact ⟨by rw [HR.out]; rfl, HB.out⟩
theorem index_tab (TA : Array Value) (i : Nat) (hi : i < 64) (b : Bool) (h : TA[i]? = some (.bool b)) (W : World) : (Instr.index 49 (.agg TA) (.int .i64 (i : Int))).run Try.prog W = .ok (.bool b) W := by
  have k1 : (0 ≤ (i : Int)) = True := eq_true (by omega)
  have k2 : ((i : Int) < 64) = True := eq_true (by omega)
  have hs : ∀ w, (sizeOf 4).run Try.prog w = .ok 1 w := fun w => rfl
  have ha : ∀ w, (isAgg 4).run Try.prog w = .ok false w := fun w => rfl
  simp [Instr.index, part, asIntOf, run_underlying Try.underlying49, hs, ha, h, hi]
def impl_LeastLetters.f (k : Nat) (l0 : List Int) : Option (Int × Bool) := if 2 * l0.length + 10 < k ∧ l0.length ≤ 1048576 then some (leastP l0) else none
theorem impl_LeastLetters.mono : ∀ l0 k, LeO (impl_LeastLetters.f k l0) (impl_LeastLetters.f (k + 1) l0) := by
  intro l0 k r h
  unfold impl_LeastLetters.f at h ⊢
  split at h
  · rename_i hc
    rw [if_pos (by omega)]
    exact h
  · cases h
set_option maxHeartbeats 4000000 in
set_option maxRecDepth 100000 in
theorem impl_LeastLetters.calls (k : Nat) (A0 : Option Addr) (c0 : Nat) (l0 : List Int) (r1 : Int) (r2 : Bool) (w : World) (hr0 : Kd.C (Kd.int .i64) w A0 l0.length l0) (hc0 : l0.length ≤ c0) (h : impl_LeastLetters.f k l0 = some (r1, r2)) :
    Calls Try.prog 40 #[.slice A0 l0.length c0] w fun e w' => e = .returned (.tuple #[.int .i64 r1, .bool r2]) ∧ Below w.heap.size w w' := by
  unfold impl_LeastLetters.f at h
  split at h
  · have h := Option.some.inj h
    have HW := Aside0.mk (isWord_f l0)
    have HR0 := Aside0.mk hr0
    unfold leastP at h
    cases hw : wordB l0 with
    | false =>
      rw [hw] at h HW
      simp only [Bool.false_eq_true, if_false, Prod.mk.injEq] at h
      obtain ⟨rfl, rfl⟩ := h
      clear hw hr0
      go_enter Try.func40, Try.ntmps40
      go_wp2_with (first | (go_at_call 49; refine (impl_isWord.calls A0 c0 l0 false _ HR0.out hc0 HW.out).mono ?_; rintro e w1 ⟨rfl, ⟨nd1, rfl⟩⟩))
      go_ret2
      exact ⟨rfl, pw_below_drewN (Below.refl _ _) _⟩
    | true =>
      rw [hw] at h HW
      simp only [if_true, Prod.mk.injEq] at h
      obtain ⟨hR, rfl⟩ := h
      have HT : Aside0 (∀ i : Nat, i < 64 → impl_falls.f (l0.length + 1) l0 (i : Nat) = some (fallT l0 (i : Nat))) := ⟨fun i hi => falls_f hw (decide_eq_true (by omega)) _ (by omega)⟩
      have HTB := fallTable_calls (l0.length + 1) A0 c0 l0 (fallT l0)
      have HTAT := fun (i : Nat) (hi : i < 64) => tabA_at (fallT l0) i hi
      have HTS := tabA_size (fallT l0)
      have HT1 := tab_oneCell (fallT l0)
      have HMM := fun W => mattering_calls (fallT l0) W
      obtain ⟨TA, hTA⟩ : ∃ TA, TA = tabA (fallT l0) := ⟨_, rfl⟩
      simp only [← hTA] at HTB HTAT HTS HT1 HMM
      obtain ⟨M, hM⟩ : ∃ M, M = matI (fallT l0) 6 := ⟨_, rfl⟩
      simp only [← hM] at HMM hR
      have HTB := Aside0.mk HTB
      have HTAT := Aside0.mk HTAT
      have HTs := Aside0.mk HTS
      have HT1 := Aside0.mk HT1
      have HMM := Aside0.mk HMM
      have HR := Aside0.mk hR
      generalize fallT l0 = T at HT HTB HTAT HMM HR hM
      have hz : ∀ w, (zeroValue 49).run Try.prog w = .ok (.agg (Array.replicate 64 (.bool false))) w := (zero_of_info info_tab).1
      have hzs : (Array.replicate 64 (Value.bool false)).size = 64 := by simp
      generalize (Array.replicate 64 (Value.bool false)) = Z at hz hzs
      clear hr0 hw hTA HTS hM hR
      go_enter Try.func40, Try.ntmps40
      go_wp2_with (first | (go_at_call 49; refine (impl_isWord.calls A0 c0 l0 true _ HR0.out hc0 HW.out).mono ?_; rintro e w1 ⟨rfl, ⟨nd1, rfl⟩⟩) | ((with_reducible refine gate_callee (f := 71) rfl ?_); refine goesL_ (some 14) rfl rfl Try.func71 (by kernel_rfl) rfl #[.slice A0 l0.length c0] rfl (by (try simp only [List.map_toArray, List.map_cons, List.map_nil]); first | done | rfl) ?_; refine (HTB.out _ (Kd.C_drewN HR0.out _) hc0 HT.out).mono ?_; rintro e w5 ⟨rfl, hb⟩; refine ⟨_, rfl, ?_⟩; have HB5 := Aside0.mk (below_step (pw_below_drewN (Below.refl _ _) _) hb); clear hb) | ((with_reducible refine gate_ (.store 49 (.tmp 4) (.tmp 14)) rfl ?_); refine wpList_store_row rfl 49 (.tmp 4) (.tmp 14) rfl w5.heap.size _ rfl rfl _ _ (blk_new w5 _) (by rw [HTs.out]; kernel_rfl) (by rw [hzs, HTs.out]) HT1.out ?_; have HBLK := Aside0.mk (setRow_heap _ _ _ TA _ _ (blk_new w5 (.cells Z 49))); have HBB := Aside0.mk (below_step HB5.out (below_row (below_alloc (Below.refl w5.heap.size w5) (.cells Z 49)) (Nat.le_refl _) TA))) | ((with_reducible refine gate_ (.load 49 (.tmp 4)) rfl ?_); refine wpList_load_row rfl 49 (.tmp 4) rfl w5.heap.size rfl _ _ _ _ HBLK.out Try.underlying49 rfl (by rw [HTs.out]; kernel_rfl) ?_) | (go_at_call 72; refine (HMM.out _).mono ?_; rintro e w6 ⟨rfl, hb⟩; have HBL := Aside0.mk (blk_below HBLK.out hb); have HB := Aside0.mk (below_step HBB.out hb); clear hb))
      clear hz hzs HBLK HBB HB5
      generalize w5.heap.size = gT at HBL ⊢
      go_loopg [5, 7] 6 (fun gg v5 v7 w' => ∃ j : Nat, v5 = .int .i64 (sumI T M j) ∧ v7 = .int .i64 ((j + 1 : Nat) : Int) ∧ j ≤ 6 ∧ 6 - j ≤ gg ∧ Aside0 (w'.heap[gT]? = some (.cells TA 49 (0, 0))) ∧ Aside0 (Below w.heap.size w w'))
      case atStart => exact ⟨0, rfl, rfl, by omega, by omega, ⟨HBL.out⟩, ⟨HB.out⟩⟩
      case round =>
        clear HBL HB
        obtain ⟨j, rfl, rfl, hj, hgg, HBL, HB⟩ := hrel
        by_cases hlt : j < 6
        · have hltb : decide (((j + 1 : Nat) : Int) ≤ 6) = true := decide_eq_true (by omega)
          have HN := Aside0.mk (nb_f (x := ((j + 1 : Nat) : Int)) (by omega) (by omega))
          have hsr := sumI_range T M j
          have hstep : sumI T M (j + 1) = if freeB M ((j + 1 : Nat) : Int) = true then sumI T M j else sumI T M j + 1 + (if exB (lesP T ((j + 1 : Nat) : Int)) 64 = true then 1 else 0) := rfl
          have HS := Aside0.mk hstep
          clear hstep
          obtain ⟨x, hx⟩ : ∃ x, x = ((j + 1 : Nat) : Int) := ⟨_, rfl⟩
          rw [← hx] at hltb HN HS ⊢
          have hxb : 1 ≤ x ∧ x ≤ 6 := by omega
          have HXJ := Aside0.mk hx
          clear hx
          obtain ⟨S, hS⟩ : ∃ S, S = sumI T M j := ⟨_, rfl⟩
          rw [← hS] at HS hsr ⊢
          clear hS
          cases hf : freeB M x with
          | true =>
            have hf2 : (Go.bits .and .i64 M (nb x) == 0) = true := hf
            rw [hf] at HS
            clear hf
            go_wp2_with (first | (go_at_call 73; refine (impl_nailBit.calls x (nb x) _ HN.out).mono ?_; rintro e wq ⟨rfl, hbq⟩; have HBL := Aside0.mk (blk_below HBL.out hbq); have HB := Aside0.mk (below_step HB.out hbq); clear hbq))
            go_roundg (6 - (j + 1))
            case measure => omega
            case rel => exact ⟨j + 1, by rw [HS.out]; rfl, by rw [HXJ.out]; rfl, by omega, by omega, ⟨HBL.out⟩, ⟨HB.out⟩⟩
          | false =>
            have hf2 : (Go.bits .and .i64 M (nb x) == 0) = false := hf
            rw [hf] at HS
            clear hf
            go_wp2_with (first | (go_at_call 73; refine (impl_nailBit.calls x (nb x) _ HN.out).mono ?_; rintro e wq ⟨rfl, hbq⟩; have HBL := Aside0.mk (blk_below HBL.out hbq); have HB := Aside0.mk (below_step HB.out hbq); clear hbq) | ((with_reducible refine gate_ (.load 49 (.tmp 4)) rfl ?_); refine wpList_load_row rfl 49 (.tmp 4) rfl gT rfl _ _ _ _ HBL.out Try.underlying49 rfl (by rw [HTs.out]; kernel_rfl) ?_))
            go_loopg [5, 29] 64 (fun gg2 v5 v29 w' => ∃ i : Nat, v5 = .int .i64 (S + 1) ∧ v29 = .int .i64 (i : Nat) ∧ i ≤ 64 ∧ 64 - i ≤ gg2 ∧ Aside0 (exB (lesP T x) i = false) ∧ Aside0 (w'.heap[gT]? = some (.cells TA 49 (0, 0))) ∧ Aside0 (Below w.heap.size w w'))
            case atStart => exact ⟨0, rfl, rfl, by omega, by omega, ⟨rfl⟩, ⟨HBL.out⟩, ⟨HB.out⟩⟩
            case round =>
              clear HBL HB
              obtain ⟨i, rfl, rfl, hi, hgg2, HA, HBL, HB⟩ := hrel
              by_cases hlt2 : i < 64
              · have hltb2 : decide ((i : Int) < 64) = true := decide_eq_true (by omega)
                have k1 : (0 ≤ (i : Int)) = True := eq_true (by omega)
                have k2 : ((i : Int) < 64) = True := eq_true (by omega)
                have hTi0 := HTAT.out i hlt2
                have HPI : Aside0 (lesP T x i = (T (i : Int) && freeB (i : Int) x)) := ⟨rfl⟩
                have HES := Aside0.mk (exB_succ (lesP T x) i)
                have HET := Aside0.mk (exB_true (lesP T x) 64 i hlt2)
                cases hT : T (i : Int) with
                | false =>
                  rw [hT] at hTi0 HPI
                  have hTi := index_tab TA i hlt2 _ hTi0
                  clear hTi0
                  clear hT
                  go_wp2
                  go_roundg (64 - (i + 1))
                  case measure => omega
                  case rel => exact ⟨i + 1, rfl, by go_num, by omega, by omega, ⟨by rw [HES.out, HA.out, HPI.out]; rfl⟩, ⟨HBL.out⟩, ⟨HB.out⟩⟩
                | true =>
                  rw [hT] at hTi0 HPI
                  have hTi := index_tab TA i hlt2 _ hTi0
                  clear hTi0
                  clear hT
                  cases hf : freeB (i : Int) x with
                  | false =>
                    have hf3 : (Go.bits .and .i64 (i : Int) (nb x) == 0) = false := hf
                    rw [hf] at HPI
                    clear hf
                    go_wp2_with (first | (go_at_call 73; refine (impl_nailBit.calls x (nb x) _ HN.out).mono ?_; rintro e wq ⟨rfl, hbq⟩; have HBL := Aside0.mk (blk_below HBL.out hbq); have HB := Aside0.mk (below_step HB.out hbq); clear hbq))
                    go_roundg (64 - (i + 1))
                    case measure => omega
                    case rel => exact ⟨i + 1, rfl, by go_num, by omega, by omega, ⟨by rw [HES.out, HA.out, HPI.out]; rfl⟩, ⟨HBL.out⟩, ⟨HB.out⟩⟩
                  | true =>
                    have hf3 : (Go.bits .and .i64 (i : Int) (nb x) == 0) = true := hf
                    rw [hf] at HPI
                    clear hf
                    go_wp2_with (first | (go_at_call 73; refine (impl_nailBit.calls x (nb x) _ HN.out).mono ?_; rintro e wq ⟨rfl, hbq⟩; have HBL := Aside0.mk (blk_below HBL.out hbq); have HB := Aside0.mk (below_step HB.out hbq); clear hbq))
                    go_roundg (6 - (j + 1))
                    case measure => omega
                    case rel => exact ⟨j + 1, by rw [HS.out, HET.out HPI.out]; rfl, by rw [HXJ.out]; rfl, by omega, by omega, ⟨HBL.out⟩, ⟨HB.out⟩⟩
              · have hltb2 : decide ((i : Int) < 64) = false := decide_eq_false (by omega)
                go_wp2
                go_roundg (6 - (j + 1))
                case measure => omega
                case rel =>
                  have hi2 : i = 64 := by omega
                  rw [hi2] at HA
                  exact ⟨j + 1, by rw [HS.out, HA.out]; simp, by rw [HXJ.out]; rfl, by omega, by omega, ⟨HBL.out⟩, ⟨HB.out⟩⟩
        · have hltb : decide (((j + 1 : Nat) : Int) ≤ 6) = false := decide_eq_false (by omega)
          go_wp2
          go_ret2
          have hj2 : j = 6 := by omega
          subst hj2
          exact ⟨by rw [← HR.out]; rfl, HB.out⟩
  · cases h
end Go.Proofs.Ytgifhmjbmnopcaa.Giv
