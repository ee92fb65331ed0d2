import Derived.Test.YtjaiienbbmfomaaGivLose
namespace Go.Proofs.Ytjaiienbbmfomaa.Giv
set_option linter.unusedVariables false
set_option linter.unusedSimpArgs false
open Go.RowKit Go.Proofs.YtjaiienbbmfomaaW.PrintWords Go.Proofs.YtjaiienbbmfomaaW.PrintLast Go.Proofs.YtjaiienbbmfomaaW.PrintMore Go.Proofs.Ytjaiienbbmfomaa.Px Go.Proofs.Ytjaiienbbmfomaa.Q
set_option maxHeartbeats 4000000 in
set_option maxRecDepth 100000 in
theorem l9Wins_calls (drop : Bool) (n set : Int) (T : Int → Bool) (w : World) (h1 : 1 ≤ n) (h2 : n ≤ 6) (hp : posB n set = true) :
    Calls Try.prog 89 #[.agg (tabA T), .int .i64 n, .int .i64 set, .bool drop] w fun e w' => e = .returned (.bool (!(movesL drop T n set).isEmpty)) ∧ Below w.heap.size w w' := by
  have HK := fun W => l9Keep_calls 6 set n T W h1 h2 hp inL_le
  have HD := fun W => l9Drop_calls 6 set n T W h1 h2 hp inL_le
  unfold LKeepAt at HK
  unfold LDropAt at HD
  have hTs := tabA_size T
  unfold movesL
  obtain ⟨TA, hTA⟩ : ∃ TA, TA = tabA T := ⟨_, rfl⟩
  simp only [← hTA] at HK HD hTs ⊢
  have HTs := Aside0.mk hTs
  have HK := Aside0.mk HK
  have HD := Aside0.mk HD
  have HBX := Aside0.mk (blk_new w (.cells TA 89))
  have HB0 := Aside0.mk (below_alloc (Below.refl w.heap.size w) (.cells TA 89))
  clear hTA hTs hp
  cases drop with
  | true =>
    simp only [if_true]
    go_enter Try.func89, Try.ntmps89
    go_wp2_with (first | ((with_reducible refine gate_ (.load 89 (.tmp 4)) rfl ?_); refine wpList_load_row rfl 89 (.tmp 4) rfl w.heap.size rfl _ _ _ _ HBX.out Try.underlying89 rfl (by rw [HTs.out]; kernel_rfl) ?_) | (go_at_call 131; refine (HD.out _).mono ?_; rintro e w3 ⟨rfl, hb⟩))
    go_ret
    exact ⟨rfl, below_step HB0.out hb⟩
  | false =>
    simp only [Bool.false_eq_true, if_false]
    go_enter Try.func89, Try.ntmps89
    go_wp2_with (first | ((with_reducible refine gate_ (.load 89 (.tmp 4)) rfl ?_); refine wpList_load_row rfl 89 (.tmp 4) rfl w.heap.size rfl _ _ _ _ HBX.out Try.underlying89 rfl (by rw [HTs.out]; kernel_rfl) ?_) | (go_at_call 84; refine (HK.out _).mono ?_; rintro e w3 ⟨rfl, hb⟩))
    go_ret
    exact ⟨rfl, below_step HB0.out hb⟩
def spec_LosingSets.f (k : Nat) (l0 : List Int) (a1 : Int) (a2 : Bool) : Option (List Int × Bool) := if 2 * l0.length + 10 < k ∧ l0.length ≤ 1048576 then some (loseP l0 a1 a2) else none
theorem spec_LosingSets.mono : ∀ l0 a1 a2 k, LeO (spec_LosingSets.f k l0 a1 a2) (spec_LosingSets.f (k + 1) l0 a1 a2) := by
  intro l0 a1 a2 k r h
  unfold spec_LosingSets.f at h ⊢
  split at h
  · rename_i hc
    rw [if_pos (by omega)]
    exact h
  · cases h
theorem shl_eq {n : Int} (h1 : 1 ≤ n) (h2 : n ≤ 6) : wrap64 (2 ^ n.toNat) = allI n + 1 := by
  rcases nail_cases h1 h2 with rfl | rfl | rfl | rfl | rfl | rfl <;> decide +kernel
set_option maxHeartbeats 4000000 in
set_option maxRecDepth 100000 in
theorem spec_LosingSets.calls (k : Nat) (A0 : Option Addr) (c0 : Nat) (l0 : List Int) (a1 : Int) (a2 : Bool) (r1 : List Int) (r2 : Bool) (w : World) (hr0 : Kd.C (Kd.int .i64) w A0 l0.length l0) (hc0 : l0.length ≤ c0) (h : spec_LosingSets.f k l0 a1 a2 = some (r1, r2)) :
    Calls Try.prog 48 #[.slice A0 l0.length c0, .int .i64 a1, .bool a2] w fun e w' => ∃ v0_ : Value, e = .returned (.tuple #[v0_, .bool r2]) ∧ Kd.R (Kd.int .i64) 3 w' w.heap.size (fun _ => True) v0_ r1 ∧ Below w.heap.size w w' := by
  unfold spec_LosingSets.f at h
  split at h
  · rename_i hk
    have h := Option.some.inj h
    have HG := Aside0.mk (l9Good_f a1 0 hk.2 k (by omega))
    have HR0 := Aside0.mk hr0
    have HB := Aside0.mk (Below.refl w.heap.size w)
    unfold loseP at h
    cases hg : gameB l0 a1 0 with
    | false =>
      rw [hg] at h HG
      simp only [Bool.false_eq_true, if_false, Prod.mk.injEq] at h
      obtain ⟨rfl, rfl⟩ := h
      clear hg hr0
      go_enter Try.func48, Try.ntmps48
      go_wp2_with (first | ((with_reducible refine gate_dst (N := 11) rfl ?_); refine Kd.R_lit (Kd.int .i64) _ 3 ?hg (N := 11) ?hd (xs := ([] : List Int)) (inner := []) (ok := fun _ => True) (okp := fun _ => True) ?hr ?hp (fun _ hk => hk) trivial (Below.refl _ _) (Nat.le_refl _) (by simp) ?_; (case hd => rfl); (case hg => rfl); (case hr => first | (go_simp; done) | (go_simp; rfl)); (case hp => exact (Reps.none _ _)); intro v0 w3 ho4 hb hg_ hnew_; clear hg_ hnew_; have HO := Aside0.mk (Kd.R_lower ho4 (below_size HB.out)); have HB1 := Aside0.mk (below_step HB.out hb); clear hb ho4) | (go_at_call 80; refine (spec_l9Good.calls k A0 c0 l0 a1 0 false _ (Kd.C_below HR0.out HB1.out) hc0 HG.out).mono ?_; rintro e w1 ⟨rfl, hb⟩; have HB2 := Aside0.mk (below_step HB1.out hb); have HO2 := Aside0.mk (Kd.R_below HO.out hb); clear hb))
      go_ret2
      exact ⟨_, rfl, HO2.out, HB2.out⟩
    | true =>
      rw [hg] at h HG
      simp only [if_true, Prod.mk.injEq] at h
      obtain ⟨hR, rfl⟩ := h
      obtain ⟨hw, h1, h2, hp⟩ := gameB_parts hg
      have ha := allI_le h1 h2
      have hsh := shl_eq h1 h2
      have k0 : (0 ≤ a1) = True := eq_true (by omega)
      have HWN := fun (s : Nat) (W : World) (hs : (s : Int) ≤ allI a1) => l9Wins_calls a2 a1 (s : Int) (fallT l0) W h1 h2 (decide_eq_true ⟨by omega, hs⟩)
      have HTB := l3Table_calls (2 * l0.length + 2) A0 c0 l0 (fallT l0)
      have HTAT := fun (i : Nat) (hi : i < 64) => tabA_at (fallT l0) i hi
      have HTS := tabA_size (fallT l0)
      have HT1 := tab_oneCell (fallT l0)
      obtain ⟨TA, hTA⟩ : ∃ TA, TA = tabA (fallT l0) := ⟨_, rfl⟩
      simp only [← hTA] at HTB HTAT HTS HT1 HWN
      obtain ⟨m, hm⟩ := Int.eq_ofNat_of_zero_le (show 0 ≤ allI a1 by omega)
      rw [hm, Int.toNat_natCast] at hR
      rw [hm] at ha hsh
      simp only [hm] at HWN
      obtain ⟨q, hq⟩ : ∃ q : Int → Bool, q = loseB a2 (fallT l0) a1 := ⟨_, rfl⟩
      rw [← hq] at hR
      have HQ : Aside0 (∀ s : Nat, q (s : Int) = (!fallT l0 (s : Int) && (movesL a2 (fallT l0) a1 (s : Int)).isEmpty)) := ⟨fun s => by rw [hq]; rfl⟩
      have HR := Aside0.mk hR
      have HTB := Aside0.mk HTB
      have HTAT := Aside0.mk HTAT
      have HTs := Aside0.mk HTS
      have HT1 := Aside0.mk HT1
      have HWN := Aside0.mk HWN
      have HSH := Aside0.mk hsh
      have HT : Aside0 (∀ i : Nat, i < 64 → spec_l3Falls.f (2 * l0.length + 2) l0 (i : Nat) = some (fallT l0 (i : Nat))) := ⟨fun i hi => l3Falls_f hw (decide_eq_true (by omega)) _ (by omega)⟩
      have hz : ∀ w, (zeroValue 89).run Try.prog w = .ok (.agg (Array.replicate 64 (.bool false))) w := (zero_of_info info_tab).1
      have hzs : (Array.replicate 64 (Value.bool false)).size = 64 := by simp
      generalize (Array.replicate 64 (Value.bool false)) = Z at hz hzs
      clear hg hr0 hw hp hTA hR HTS hq hm hsh
      go_enter Try.func48, Try.ntmps48
      go_wp2_with (first | ((with_reducible refine gate_dst (N := 11) rfl ?_); refine Kd.R_lit (Kd.int .i64) _ 3 ?hg (N := 11) ?hd (xs := ([] : List Int)) (inner := []) (ok := fun _ => True) (okp := fun _ => True) ?hr ?hp (fun _ hk => hk) trivial (Below.refl _ _) (Nat.le_refl _) (by simp) ?_; (case hd => rfl); (case hg => rfl); (case hr => first | (go_simp; done) | (go_simp; rfl)); (case hp => exact (Reps.none _ _)); intro v0 w3 ho4 hb hg_ hnew_; clear hg_ hnew_; have HO := Aside0.mk (Kd.R_lower ho4 (below_size HB.out)); have HB1 := Aside0.mk (below_step HB.out hb); clear hb ho4) | (go_at_call 80; refine (spec_l9Good.calls k A0 c0 l0 a1 0 true _ (Kd.C_below HR0.out HB1.out) hc0 HG.out).mono ?_; rintro e w1 ⟨rfl, hb⟩; have HB2 := Aside0.mk (below_step HB1.out hb); have HO2 := Aside0.mk (Kd.R_below HO.out hb); clear hb) | ((with_reducible refine gate_callee (f := 81) rfl ?_); refine goesL_ (some 18) rfl rfl Try.func81 (by kernel_rfl) rfl #[.slice A0 l0.length c0] rfl (by (try simp only [List.map_toArray, List.map_cons, List.map_nil]); first | done | rfl) ?_; refine (HTB.out _ (Kd.C_below HR0.out HB2.out) hc0 HT.out).mono ?_; rintro e w5 ⟨rfl, hb⟩; refine ⟨_, rfl, ?_⟩; have HB5 := Aside0.mk (below_step HB2.out hb); have HO5 := Aside0.mk (Kd.R_below HO2.out hb); clear hb) | ((with_reducible refine gate_ (.store 89 (.tmp 9) (.tmp 18)) rfl ?_); refine wpList_store_row rfl 89 (.tmp 9) (.tmp 18) rfl w5.heap.size _ rfl rfl _ _ (blk_new w5 _) (by rw [HTs.out]; kernel_rfl) (by rw [hzs, HTs.out]) HT1.out ?_))
      clear hz hzs
      have hB6 := below_row (below_alloc (Below.refl w5.heap.size w5) (.cells Z 89)) (Nat.le_refl _) TA
      have hblk6 : ((w5.alloc (.cells Z 89)).setRow w5.heap.size TA).heap[w5.heap.size]? = some (.cells TA 89 (0, 0)) := setRow_heap _ _ _ _ _ _ (blk_new w5 _)
      have hO6 := Kd.R_below (re_ok (ok2 := fun k => k ≠ w5.heap.size) HO5.out (fun k _ h => by omega)) hB6
      have hBB6 := below_step HB5.out hB6
      generalize (w5.alloc (.cells Z 89)).setRow w5.heap.size TA = w6 at hblk6 hO6 hBB6 ⊢
      generalize w5.heap.size = gT at hblk6 hO6 ⊢
      have HBL6 := Aside0.mk hblk6
      have HO6 := Aside0.mk hO6
      have HB6 := Aside0.mk hBB6
      clear hB6 hblk6 hO6 hBB6 HO HO2 HO5 HB1 HB2 HB5
      go_loopg [8, 10] (m + 1) (fun gg v8 v10 w' => ∃ i : Nat, v10 = .int .i64 (i : Nat) ∧ i ≤ m + 1 ∧ m + 1 - i ≤ gg ∧ Aside0 (Kd.R (Kd.int .i64) 3 w' w.heap.size (fun k => k ≠ gT) v8 ((setsL i).filter q)) ∧ Aside0 (w'.heap[gT]? = some (.cells TA 89 (0, 0))) ∧ Aside0 (Below w.heap.size w w'))
      case atStart => exact ⟨0, rfl, by omega, by omega, ⟨HO6.out⟩, ⟨HBL6.out⟩, ⟨HB6.out⟩⟩
      case round =>
        obtain ⟨i, rfl, hi, hgg, HRr, HBL, HBr⟩ := hrel
        by_cases hlt : i < m + 1
        · have hltb : decide ((i : Int) < wrap64 (2 ^ a1.toNat)) = true := decide_eq_true (by rw [HSH.out]; omega)
          have k1 : (0 ≤ (i : Int)) = True := eq_true (by omega)
          have k2 : ((i : Int) < 64) = True := eq_true (by omega)
          have cT := (blk_cell HBL.out i).trans (HTAT.out i (by omega))
          have HQi := Aside0.mk (HQ.out i)
          have hsz := blk_lt HBL.out
          cases hT : fallT l0 (i : Int) with
          | true =>
            rw [hT] at cT
            have HT2 := Aside0.mk hT
            clear hT
            go_wp2
            go_roundg (m + 1 - (i + 1))
            case measure => omega
            case rel => exact ⟨i + 1, by go_num, by omega, Nat.le_refl _, ⟨by rw [setsL_step, HQi.out, HT2.out]; simpa using HRr.out⟩, ⟨HBL.out⟩, ⟨HBr.out⟩⟩
          | false =>
            rw [hT] at cT
            have HT2 := Aside0.mk hT
            clear hT
            cases he : (movesL a2 (fallT l0) a1 (i : Int)).isEmpty with
            | false =>
              have HE := Aside0.mk he
              clear he
              go_wp2_with (first | ((with_reducible refine gate_ (.load 89 (.tmp 9)) rfl ?_); (refine gate_guard (by rfl) ?_; dsimp only); refine wpList_load_row rfl 89 (.tmp 9) rfl gT rfl _ _ _ _ HBL.out Try.underlying89 rfl (by rw [HTs.out]; kernel_rfl) ?_) | (go_at_call 89; refine (HWN.out i _ (by omega)).mono ?_; rw [HE.out]; rintro e w8 ⟨rfl, hb8⟩; have HB8 := Aside0.mk (below_step HBr.out hb8); have HR8 := Aside0.mk (Kd.R_below HRr.out hb8); have HBL8 := Aside0.mk (blk_below HBL.out hb8); have hs8 : gT < w8.heap.size := blk_lt HBL8.out; clear hb8))
              go_roundg (m + 1 - (i + 1))
              case measure => omega
              case rel => exact ⟨i + 1, by go_num, by omega, Nat.le_refl _, ⟨by rw [setsL_step, HQi.out, HT2.out, HE.out]; simpa using HR8.out⟩, ⟨HBL8.out⟩, ⟨HB8.out⟩⟩
            | true =>
              have HE := Aside0.mk he
              clear he
              go_wp2_with (first | ((with_reducible refine gate_ (.load 89 (.tmp 9)) rfl ?_); (refine gate_guard (by rfl) ?_; dsimp only); refine wpList_load_row rfl 89 (.tmp 9) rfl gT rfl _ _ _ _ HBL.out Try.underlying89 rfl (by rw [HTs.out]; kernel_rfl) ?_) | (go_at_call 89; refine (HWN.out i _ (by omega)).mono ?_; rw [HE.out]; rintro e w8 ⟨rfl, hb8⟩; have HB8 := Aside0.mk (below_step HBr.out hb8); have HR8 := Aside0.mk (Kd.R_below HRr.out hb8); have HBL8 := Aside0.mk (blk_below HBL.out hb8); have hs8 : gT < w8.heap.size := blk_lt HBL8.out; clear hb8) | ((with_reducible refine gate_builtin (b := .append) (xs := #[.tmp 37, .tmp 39]) rfl ?_); at_builtin; refine Kd.R_append (Kd.int .i64) (w0 := w) w.heap.size rfl (.tmp 37) (.tmp 39) 22 3 (.int .i64 0) 8 rfl Try.underlying22 info3 rfl (by decide) (by omega) u8 ((setsL i).filter q) (i : Int) [.int .i64 (i : Int)] (fun k => k ≠ gT) (fun _ => False) rfl rfl ?aP (fun _ hk => hk.elim) ?aF ?aO ?aB ?aS ?aL ?_; (case aP => exact rfl); (case aB => exact HB8.out); (case aF => exact (fun k hk => by omega)); (case aO => exact HR8.out); (case aS => exact (below_size HB8.out)); (case aL => have h1_ := setsL_len i q; omega); intro v9 w9 ho hb9 hg9 hat; have HR9 := Aside0.mk ho; have HB9 := Aside0.mk hb9; have HG9 := Aside0.mk hg9; clear ho hb9 hg9 hat))
              go_roundg (m + 1 - (i + 1))
              case measure => omega
              case rel =>
                have hne2 : some gT ≠ u8.ownBlock := fun he => HR8.out.1 gT he.symm rfl
                exact ⟨i + 1, by go_num, by omega, Nat.le_refl _, ⟨by rw [setsL_step, HQi.out, HT2.out, HE.out]; exact HR9.out⟩, ⟨blk_grown HBL8.out HG9.out hne2⟩, ⟨HB9.out⟩⟩
        · have hltb : decide ((i : Int) < wrap64 (2 ^ a1.toNat)) = false := decide_eq_false (by rw [HSH.out]; omega)
          go_wp2
          go_ret2
          have hi2 : i = m + 1 := by omega
          rw [hi2, HR.out] at HRr
          exact ⟨_, rfl, re_ok HRr.out (fun _ _ _ => trivial), HBr.out⟩
  · cases h
end Go.Proofs.Ytjaiienbbmfomaa.Giv
