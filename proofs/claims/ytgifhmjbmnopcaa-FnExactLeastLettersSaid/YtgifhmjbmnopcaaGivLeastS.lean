import Derived.Test.YtgifhmjbmnopcaaGivLeast
import Derived.Test.YtgifhmjbmnopcaaPx2
import Derived.Test.YtgifhmjbmnopcaaPx3
import Derived.Deep.QuietTactic
import Derived.BigQuiet
namespace Go.Proofs.Ytgifhmjbmnopcaa.Giv
set_option linter.unusedVariables false
set_option linter.unusedSimpArgs false
open Go.RowKit Go.Proofs.YtgifhmjbmnopcaaW.PrintWords Go.Proofs.YtgifhmjbmnopcaaW.PrintLast Go.Proofs.YtgifhmjbmnopcaaW.PrintMore Go.Proofs.Ytgifhmjbmnopcaa.Px Go.Proofs.Ytgifhmjbmnopcaa.Q
theorem nb_shl {x : Int} (h1 : 1 ≤ x) (h2 : x ≤ 6) : wrap64 (2 ^ (x - 1).toNat) = nb x := by
  rcases nail_cases h1 h2 with rfl | rfl | rfl | rfl | rfl | rfl <;> decide +kernel
theorem nb_forms {x : Int} (h1 : 1 ≤ x) (h2 : x ≤ 6) : IntKind.i64.wrap (x - 1) = x - 1 ∧ IntKind.i64.wrap (2 ^ (x - 1).toNat) = nb x ∧ IntKind.i64.wrap (1 * 2 ^ min (x - 1).toNat 64) = nb x ∧ IntKind.i64.wrap (2 ^ min (x - 1).toNat 64) = nb x ∧ IntKind.i64.wrap (1 * 2 ^ (x - 1).toNat) = nb x ∧ shl .i64 1 (x - 1) = nb x ∧ IntKind.i64.wrap (2 ^ (x.toNat - 1)) = nb x ∧ wrap64 (2 ^ (x.toNat - 1)) = nb x := by
  rcases nail_cases h1 h2 with rfl | rfl | rfl | rfl | rfl | rfl <;> decide +kernel
set_option maxHeartbeats 4000000 in
set_option maxRecDepth 100000 in
theorem l3Matter_calls (T : Int → Bool) (w : World) :
    Calls Try.prog 69 #[.agg (tabA T)] w fun e w' => e = .returned (.int .i64 (difI T 6)) ∧ Below w.heap.size w w' := by
  obtain ⟨TA, hTA⟩ : ∃ TA, TA = tabA T := ⟨_, rfl⟩
  have HTat : Aside0 (∀ i : Nat, i < 64 → TA[i]? = some (.bool (T (i : Nat)))) := ⟨fun i hi => by rw [hTA]; exact tabA_at T i hi⟩
  rw [← hTA]
  have HBX := Aside0.mk (blk_new w (.cells TA 49))
  have HB0 := Aside0.mk (below_alloc (Below.refl w.heap.size w) (.cells TA 49))
  obtain ⟨R, hR⟩ : ∃ R, R = difI T 6 := ⟨_, rfl⟩
  rw [← hR]
  have HR := Aside0.mk hR
  clear hTA hR
  go_enter Try.func69, Try.ntmps69
  go_wp2
  go_loopg [3, 4] 6 (fun gg v3 v4 w' => ∃ j : Nat, v3 = .int .i64 (difI T j) ∧ v4 = .int .i64 ((j + 1 : Nat) : Int) ∧ j ≤ 6 ∧ 6 - j ≤ gg ∧ Aside0 (w'.heap[w.heap.size]? = some (.cells TA 49 (0, 0))) ∧ Aside0 (Below w.heap.size w w'))
  case atStart => exact ⟨0, rfl, rfl, by omega, by omega, ⟨HBX.out⟩, ⟨HB0.out⟩⟩
  case round =>
    obtain ⟨j, rfl, rfl, hj, hgg, HBL, HB⟩ := hrel
    by_cases hlt : j < 6
    · have hltb : decide (((j + 1 : Nat) : Int) ≤ 6) = true := decide_eq_true (by omega)
      have hstep : difI T (j + 1) = if exB (difP T ((j + 1 : Nat) : Int)) 64 = true then nextI (difI T j) ((j + 1 : Nat) : Int) else difI T j := rfl
      have HS := Aside0.mk hstep
      have hdr := difI_range T j (by omega)
      clear hstep
      obtain ⟨x, hx⟩ : ∃ x, x = ((j + 1 : Nat) : Int) := ⟨_, rfl⟩
      rw [← hx] at hltb HS ⊢
      have hxb : 1 ≤ x ∧ x ≤ 6 := by omega
      have HXJ := Aside0.mk hx
      have hsh := nb_shl hxb.1 hxb.2
      obtain ⟨hw1, hs1, hs2, hs3, hs4, hs5, hs6, hs7⟩ := nb_forms hxb.1 hxb.2
      have k0 : (0 ≤ x - 1) = True := eq_true (by omega)
      clear hx
      obtain ⟨a, ha⟩ : ∃ a, a = difI T j := ⟨_, rfl⟩
      rw [← ha] at HS hdr ⊢
      have hid := (tab_at hdr.1 hdr.2 hxb.1 hxb.2).2.1
      have HID := Aside0.mk hid
      clear ha hid
      go_wp2
      go_loopg [3, 5] 64 (fun gg2 v3 v5 w' => ∃ (i : Nat) (o : Int), v3 = .int .i64 o ∧ v5 = .int .i64 (i : Nat) ∧ i ≤ 64 ∧ 64 - i ≤ gg2 ∧ Aside0 (o = if exB (difP T x) i = true then nextI a x else a) ∧ Aside0 (w'.heap[w.heap.size]? = some (.cells TA 49 (0, 0))) ∧ Aside0 (Below w.heap.size w w'))
      case atStart => exact ⟨0, a, rfl, rfl, by omega, by omega, ⟨rfl⟩, ⟨HBL.out⟩, ⟨HB.out⟩⟩
      case round =>
        clear HBL HB
        obtain ⟨i, o, rfl, rfl, hi, hgg2, HA, HBL, HB⟩ := hrel
        by_cases hlt2 : i < 64
        · have hltb2 : decide ((i : Int) < 64) = true := decide_eq_true (by omega)
          have k1 : (0 ≤ (i : Int)) = True := eq_true (by omega)
          have k2 : ((i : Int) < 64) = True := eq_true (by omega)
          have cT := (blk_cell HBL.out i).trans (HTat.out i hlt2)
          have hta := tab_at (s := (i : Int)) (by omega) (by omega) hxb.1 hxb.2
          have hnx := hta.1
          have hin := hta.2.2
          obtain ⟨t, ht⟩ := Int.eq_ofNat_of_zero_le hnx.1
          have ho : Go.bits .or .i64 (i : Int) (nb x) = (t : Int) := ht
          have ht63 : t < 64 := by rw [ht] at hnx; omega
          have k3 : (0 ≤ (t : Int)) = True := eq_true (by omega)
          have k4 : ((t : Int) < 64) = True := eq_true (by omega)
          have cN := (blk_cell HBL.out t).trans (HTat.out t ht63)
          have HPI : Aside0 (difP T x i = (freeB (i : Int) x && (T (i : Int) != T (t : Int)))) := ⟨by unfold difP; rw [ht]⟩
          have HES := Aside0.mk (exB_succ (difP T x) i)
          clear hnx ht hta
          cases hf : freeB (i : Int) x with
          | false =>
            rw [hf] at hin HPI
            have HI : Aside0 (spec_l3In.f (i : Int) x = some true) := ⟨hin⟩
            clear hf hin
            go_wp2
            go_quiet (first | (go_at_call 70; refine Calls.quiet_of ((spec_l3In.calls (i : Int) x _ _ HI.out).mono fun _ _ h => ⟨h.1, h.2.out⟩)))
            go_wp2
            go_roundg (64 - (i + 1))
            case measure => omega
            case rel => exact ⟨i + 1, o, rfl, by go_num, by omega, by omega, ⟨by rw [HA.out, HES.out, HPI.out]; simp⟩, ⟨HBL.out⟩, ⟨pw_below_drewN HB.out _⟩⟩
          | true =>
            rw [hf] at hin HPI
            have HI : Aside0 (spec_l3In.f (i : Int) x = some false) := ⟨hin⟩
            clear hf hin
            cases hT : T (i : Int) with
            | false =>
              rw [hT] at cT HPI
              clear hT
              cases hT2 : T (t : Int) with
              | false =>
                rw [hT2] at cN HPI
                clear hT2
                go_wp2
                go_quiet (first | (go_at_call 70; refine Calls.quiet_of ((spec_l3In.calls (i : Int) x _ _ HI.out).mono fun _ _ h => ⟨h.1, h.2.out⟩)))
                go_wp2
                go_roundg (64 - (i + 1))
                case measure => omega
                case rel => exact ⟨i + 1, o, rfl, by go_num, by omega, by omega, ⟨by rw [HA.out, HES.out, HPI.out]; simp⟩, ⟨HBL.out⟩, ⟨pw_below_drewN HB.out _⟩⟩
              | true =>
                rw [hT2] at cN HPI
                clear hT2
                go_wp2
                go_quiet (first | (go_at_call 70; refine Calls.quiet_of ((spec_l3In.calls (i : Int) x _ _ HI.out).mono fun _ _ h => ⟨h.1, h.2.out⟩)))
                go_wp2
                go_roundg (64 - (i + 1))
                case measure => omega
                case rel =>
                  have hon : Go.bits .or .i64 o (nb x) = nextI a x := by
                    show nextI o x = nextI a x
                    rw [HA.out]
                    split
                    · exact HID.out
                    · rfl
                  exact ⟨i + 1, nextI a x, by rw [← hon], by go_num, by omega, by omega, ⟨by rw [HES.out, HPI.out]; simp⟩, ⟨HBL.out⟩, ⟨pw_below_drewN HB.out _⟩⟩
            | true =>
              rw [hT] at cT HPI
              clear hT
              cases hT2 : T (t : Int) with
              | false =>
                rw [hT2] at cN HPI
                clear hT2
                go_wp2
                go_quiet (first | (go_at_call 70; refine Calls.quiet_of ((spec_l3In.calls (i : Int) x _ _ HI.out).mono fun _ _ h => ⟨h.1, h.2.out⟩)))
                go_wp2
                go_roundg (64 - (i + 1))
                case measure => omega
                case rel =>
                  have hon : Go.bits .or .i64 o (nb x) = nextI a x := by
                    show nextI o x = nextI a x
                    rw [HA.out]
                    split
                    · exact HID.out
                    · rfl
                  exact ⟨i + 1, nextI a x, by rw [← hon], by go_num, by omega, by omega, ⟨by rw [HES.out, HPI.out]; simp⟩, ⟨HBL.out⟩, ⟨pw_below_drewN HB.out _⟩⟩
              | true =>
                rw [hT2] at cN HPI
                clear hT2
                go_wp2
                go_quiet (first | (go_at_call 70; refine Calls.quiet_of ((spec_l3In.calls (i : Int) x _ _ HI.out).mono fun _ _ h => ⟨h.1, h.2.out⟩)))
                go_wp2
                go_roundg (64 - (i + 1))
                case measure => omega
                case rel => exact ⟨i + 1, o, rfl, by go_num, by omega, by omega, ⟨by rw [HA.out, HES.out, HPI.out]; simp⟩, ⟨HBL.out⟩, ⟨pw_below_drewN HB.out _⟩⟩
        · have hltb2 : decide ((i : Int) < 64) = false := decide_eq_false (by omega)
          go_wp2
          go_roundg (6 - (j + 1))
          case measure => omega
          case rel =>
            have hi2 : i = 64 := by omega
            rw [hi2] at HA
            exact ⟨j + 1, by rw [HS.out, ← HA.out], by rw [HXJ.out]; rfl, by omega, by omega, ⟨HBL.out⟩, ⟨HB.out⟩⟩
    · have hltb : decide (((j + 1 : Nat) : Int) ≤ 6) = false := decide_eq_false (by omega)
      go_wp2
      go_ret
      have hj2 : j = 6 := by omega
      subst hj2
      exact ⟨by rw [HR.out]; rfl, HB.out⟩
def spec_LeastLetters.f (k : Nat) (l0 : List Int) : Option (Int × Bool) := if 2 * l0.length + 10 < k ∧ l0.length ≤ 1048576 then some (leastP l0) else none
theorem spec_LeastLetters.mono : ∀ l0 k, LeO (spec_LeastLetters.f k l0) (spec_LeastLetters.f (k + 1) l0) := by
  intro l0 k r h
  unfold spec_LeastLetters.f at h ⊢
  split at h
  · rename_i hc
    rw [if_pos (by omega)]
    exact h
  · cases h
set_option maxHeartbeats 4000000 in
set_option maxRecDepth 100000 in
theorem spec_LeastLetters.calls (k : Nat) (A0 : Option Addr) (c0 : Nat) (l0 : List Int) (r1 : Int) (r2 : Bool) (w : World) (hr0 : Kd.C (Kd.int .i64) w A0 l0.length l0) (hc0 : l0.length ≤ c0) (h : spec_LeastLetters.f k l0 = some (r1, r2)) :
    Calls Try.prog 39 #[.slice A0 l0.length c0] w fun e w' => e = .returned (.tuple #[.int .i64 r1, .bool r2]) ∧ Below w.heap.size w w' := by
  unfold spec_LeastLetters.f at h
  split at h
  · have h := Option.some.inj h
    rename_i hk
    have HW := Aside0.mk (l2Word_f l0 (by omega) k (by omega))
    have HR0 := Aside0.mk hr0
    unfold leastP at h
    cases hw : wordB l0 with
    | false =>
      rw [hw] at h HW
      simp only [Bool.false_eq_true, if_false, Prod.mk.injEq] at h
      obtain ⟨rfl, rfl⟩ := h
      clear hw hr0
      go_enter Try.func39, Try.ntmps39
      go_wp2_with (first | (go_at_call 47; refine (spec_l2Word.calls k A0 c0 l0 false _ HR0.out hc0 HW.out).mono ?_; rintro e w1 ⟨rfl, ⟨nd1, rfl⟩⟩))
      go_ret2
      exact ⟨rfl, pw_below_drewN (Below.refl _ _) _⟩
    | true =>
      rw [hw] at h HW
      simp only [if_true, Prod.mk.injEq] at h
      obtain ⟨hR, rfl⟩ := h
      have HT : Aside0 (∀ i : Nat, i < 64 → spec_l3Falls.f (2 * l0.length + 2) l0 (i : Nat) = some (fallT l0 (i : Nat))) := ⟨fun i hi => l3Falls_f hw (decide_eq_true (by omega)) _ (by omega)⟩
      have HTB := l3Table_calls (2 * l0.length + 2) A0 c0 l0 (fallT l0)
      have HTAT := fun (i : Nat) (hi : i < 64) => tabA_at (fallT l0) i hi
      have HTS := tabA_size (fallT l0)
      have HT1 := tab_oneCell (fallT l0)
      have HMM := fun W => l3Matter_calls (fallT l0) W
      obtain ⟨TA, hTA⟩ : ∃ TA, TA = tabA (fallT l0) := ⟨_, rfl⟩
      simp only [← hTA] at HTB HTAT HTS HT1 HMM
      obtain ⟨M, hM⟩ : ∃ M, M = matI (fallT l0) 6 := ⟨_, rfl⟩
      have hMr := matI_range (fallT l0) 6 (by omega)
      simp only [difI_mat hw 6 (by omega)] at HMM
      simp only [← hM] at HMM hR hMr
      have HTB := Aside0.mk HTB
      have HTAT := Aside0.mk HTAT
      have HTs := Aside0.mk HTS
      have HT1 := Aside0.mk HT1
      have HMM := Aside0.mk HMM
      have HR := Aside0.mk hR
      generalize fallT l0 = T at HT HTB HTAT HMM HR hM
      have hz : ∀ w, (zeroValue 49).run Try.prog w = .ok (.agg (Array.replicate 64 (.bool false))) w := (zero_of_info info_tab).1
      have hzs : (Array.replicate 64 (Value.bool false)).size = 64 := by simp
      generalize (Array.replicate 64 (Value.bool false)) = Z at hz hzs
      clear hr0 hw hTA HTS hM hR
      go_enter Try.func39, Try.ntmps39
      go_wp2_with (first | (go_at_call 47; refine (spec_l2Word.calls k A0 c0 l0 true _ HR0.out hc0 HW.out).mono ?_; rintro e w1 ⟨rfl, ⟨nd1, rfl⟩⟩) | ((with_reducible refine gate_callee (f := 68) rfl ?_); refine goesL_ (some 13) rfl rfl Try.func68 (by kernel_rfl) rfl #[.slice A0 l0.length c0] rfl (by (try simp only [List.map_toArray, List.map_cons, List.map_nil]); first | done | rfl) ?_; refine (HTB.out _ (Kd.C_drewN HR0.out _) hc0 HT.out).mono ?_; rintro e w5 ⟨rfl, hb⟩; refine ⟨_, rfl, ?_⟩; have HB5 := Aside0.mk (below_step (pw_below_drewN (Below.refl _ _) _) hb); clear hb) | ((with_reducible refine gate_ (.store 49 (.tmp 4) (.tmp 13)) rfl ?_); refine wpList_store_row rfl 49 (.tmp 4) (.tmp 13) rfl w5.heap.size _ rfl rfl _ _ (blk_new w5 _) (by rw [HTs.out]; kernel_rfl) (by rw [hzs, HTs.out]) HT1.out ?_; have HBLK := Aside0.mk (setRow_heap _ _ _ TA _ _ (blk_new w5 (.cells Z 49))); have HBB := Aside0.mk (below_step HB5.out (below_row (below_alloc (Below.refl w5.heap.size w5) (.cells Z 49)) (Nat.le_refl _) TA))) | ((with_reducible refine gate_ (.load 49 (.tmp 4)) rfl ?_); refine wpList_load_row rfl 49 (.tmp 4) rfl w5.heap.size rfl _ _ _ _ HBLK.out Try.underlying49 rfl (by rw [HTs.out]; kernel_rfl) ?_) | (go_at_call 69; refine (HMM.out _).mono ?_; rintro e w6 ⟨rfl, hb⟩; have HBL := Aside0.mk (blk_below HBLK.out hb); have HB := Aside0.mk (below_step HBB.out hb); clear hb))
      clear hz hzs HBLK HBB HB5
      generalize w5.heap.size = gT at HBL ⊢
      go_loopg [5, 7] 6 (fun gg v5 v7 w' => ∃ j : Nat, v5 = .int .i64 (sumI T M j) ∧ v7 = .int .i64 ((j + 1 : Nat) : Int) ∧ j ≤ 6 ∧ 6 - j ≤ gg ∧ Aside0 (w'.heap[gT]? = some (.cells TA 49 (0, 0))) ∧ Aside0 (Below w.heap.size w w'))
      case atStart => exact ⟨0, rfl, rfl, by omega, by omega, ⟨HBL.out⟩, ⟨HB.out⟩⟩
      case round =>
        clear HBL HB
        obtain ⟨j, rfl, rfl, hj, hgg, HBL, HB⟩ := hrel
        by_cases hlt : j < 6
        · have hltb : decide (((j + 1 : Nat) : Int) ≤ 6) = true := decide_eq_true (by omega)
          have him := (tab_at (s := M) (n := ((j + 1 : Nat) : Int)) hMr.1 hMr.2 (by omega) (by omega)).2.2
          have hsr := sumI_range T M j
          have hstep : sumI T M (j + 1) = if freeB M ((j + 1 : Nat) : Int) = true then sumI T M j else sumI T M j + 1 + (if exB (lesP T ((j + 1 : Nat) : Int)) 64 = true then 1 else 0) := rfl
          have HS := Aside0.mk hstep
          clear hstep
          obtain ⟨x, hx⟩ : ∃ x, x = ((j + 1 : Nat) : Int) := ⟨_, rfl⟩
          rw [← hx] at hltb him HS ⊢
          have hxb : 1 ≤ x ∧ x ≤ 6 := by omega
          have HXJ := Aside0.mk hx
          clear hx
          obtain ⟨S, hS⟩ : ∃ S, S = sumI T M j := ⟨_, rfl⟩
          rw [← hS] at HS hsr ⊢
          clear hS
          cases hf : freeB M x with
          | true =>
            have HIM : Aside0 (spec_l3In.f M x = some false) := ⟨by rw [him, hf]; rfl⟩
            rw [hf] at HS
            clear him
            clear hf
            go_wp2_with (first | (go_at_call 70; refine (spec_l3In.calls M x _ _ HIM.out).mono ?_; rintro e wq ⟨rfl, ⟨nd, rfl⟩⟩))
            go_roundg (6 - (j + 1))
            case measure => omega
            case rel => exact ⟨j + 1, by rw [HS.out]; rfl, by rw [HXJ.out]; rfl, by omega, by omega, ⟨HBL.out⟩, ⟨pw_below_drewN HB.out _⟩⟩
          | false =>
            have HIM : Aside0 (spec_l3In.f M x = some true) := ⟨by rw [him, hf]; rfl⟩
            rw [hf] at HS
            clear him
            clear hf
            go_wp2_with (first | (go_at_call 70; refine (spec_l3In.calls M x _ _ HIM.out).mono ?_; rintro e wq ⟨rfl, ⟨nd, rfl⟩⟩))
            go_loopg [5, 8] 64 (fun gg2 v5 v29 w' => ∃ i : Nat, v5 = .int .i64 (S + 1) ∧ v29 = .int .i64 (i : Nat) ∧ i ≤ 64 ∧ 64 - i ≤ gg2 ∧ Aside0 (exB (lesP T x) i = false) ∧ Aside0 (w'.heap[gT]? = some (.cells TA 49 (0, 0))) ∧ Aside0 (Below w.heap.size w w'))
            case atStart => exact ⟨0, rfl, rfl, by omega, by omega, ⟨rfl⟩, ⟨HBL.out⟩, ⟨pw_below_drewN HB.out _⟩⟩
            case round =>
              clear HBL HB
              obtain ⟨i, rfl, rfl, hi, hgg2, HA, HBL, HB⟩ := hrel
              by_cases hlt2 : i < 64
              · have hltb2 : decide ((i : Int) < 64) = true := decide_eq_true (by omega)
                have k1 : (0 ≤ (i : Int)) = True := eq_true (by omega)
                have k2 : ((i : Int) < 64) = True := eq_true (by omega)
                have hTi0 := (blk_cell HBL.out i).trans (HTAT.out i hlt2)
                have hii := (tab_at (s := (i : Int)) (n := x) (by omega) (by omega) hxb.1 hxb.2).2.2
                have HPI : Aside0 (lesP T x i = (T (i : Int) && freeB (i : Int) x)) := ⟨rfl⟩
                have HES := Aside0.mk (exB_succ (lesP T x) i)
                have HET := Aside0.mk (exB_true (lesP T x) 64 i hlt2)
                cases hT : T (i : Int) with
                | false =>
                  rw [hT] at hTi0 HPI
                  clear hT
                  go_wp2
                  go_roundg (64 - (i + 1))
                  case measure => omega
                  case rel => exact ⟨i + 1, rfl, by go_num, by omega, by omega, ⟨by rw [HES.out, HA.out, HPI.out]; rfl⟩, ⟨HBL.out⟩, ⟨HB.out⟩⟩
                | true =>
                  rw [hT] at hTi0 HPI
                  clear hT
                  cases hf : freeB (i : Int) x with
                  | false =>
                    have HII : Aside0 (spec_l3In.f (i : Int) x = some true) := ⟨by rw [hii, hf]; rfl⟩
                    rw [hf] at HPI
                    clear hii
                    clear hf
                    go_wp2_with (first | (go_at_call 70; refine (spec_l3In.calls (i : Int) x _ _ HII.out).mono ?_; rintro e wq ⟨rfl, ⟨nd, rfl⟩⟩))
                    go_roundg (64 - (i + 1))
                    case measure => omega
                    case rel => exact ⟨i + 1, rfl, by go_num, by omega, by omega, ⟨by rw [HES.out, HA.out, HPI.out]; rfl⟩, ⟨HBL.out⟩, ⟨pw_below_drewN HB.out _⟩⟩
                  | true =>
                    have HII : Aside0 (spec_l3In.f (i : Int) x = some false) := ⟨by rw [hii, hf]; rfl⟩
                    rw [hf] at HPI
                    clear hii
                    clear hf
                    go_wp2_with (first | (go_at_call 70; refine (spec_l3In.calls (i : Int) x _ _ HII.out).mono ?_; rintro e wq ⟨rfl, ⟨nd, rfl⟩⟩))
                    go_roundg (6 - (j + 1))
                    case measure => omega
                    case rel => exact ⟨j + 1, by rw [HS.out, HET.out HPI.out]; rfl, by rw [HXJ.out]; rfl, by omega, by omega, ⟨HBL.out⟩, ⟨pw_below_drewN HB.out _⟩⟩
              · have hltb2 : decide ((i : Int) < 64) = false := decide_eq_false (by omega)
                go_wp2
                go_roundg (6 - (j + 1))
                case measure => omega
                case rel =>
                  have hi2 : i = 64 := by omega
                  rw [hi2] at HA
                  exact ⟨j + 1, by rw [HS.out, HA.out]; simp, by rw [HXJ.out]; rfl, by omega, by omega, ⟨HBL.out⟩, ⟨HB.out⟩⟩
        · have hltb : decide (((j + 1 : Nat) : Int) ≤ 6) = false := decide_eq_false (by omega)
          go_wp2
          go_ret2
          have hj2 : j = 6 := by omega
          subst hj2
          exact ⟨by rw [← HR.out]; rfl, HB.out⟩
  · cases h
end Go.Proofs.Ytgifhmjbmnopcaa.Giv
