import Derived.Test.YtjaiienbbmfomaaGivNum
import Derived.Test.YtjaiienbbmfomaaPx1
namespace Go.Proofs.Ytjaiienbbmfomaa.Giv
set_option linter.unusedVariables false
set_option linter.unusedSimpArgs false
open Go.RowKit Go.Proofs.YtjaiienbbmfomaaW.PrintWords Go.Proofs.YtjaiienbbmfomaaW.PrintLast Go.Proofs.YtjaiienbbmfomaaW.PrintMore Go.Proofs.Ytjaiienbbmfomaa.Px Go.Proofs.Ytjaiienbbmfomaa.Q
theorem take_fm (p : Int → Bool) (y : Int → Int) (L : List Int) (i : Nat) (hi : i < L.length) : ((L.take (i + 1)).filter p).map y = ((L.take i).filter p).map y ++ (if p (rd L (i : Int)) = true then [y (rd L (i : Int))] else []) := by
  rw [take_filter p L i hi, List.map_append]
  by_cases h : p (rd L (i : Int)) = true
  · rw [if_pos h, if_pos h]; rfl
  · rw [if_neg h, if_neg h]; rfl
set_option maxHeartbeats 4000000 in
set_option maxRecDepth 100000 in
theorem l9Number_step (n set : Int) (T : Int → Bool) (w : World) (h1 : 1 ≤ n) (h2 : n ≤ 6) (hp : posB n set = true) (z : Int → Int) (hk : ∀ next, next ∈ (inL n set).map (nextI set) → ∀ W', Calls Try.prog 87 #[.agg (tabA T), .int .i64 n, .int .i64 next] W' fun e w' => e = .returned (.int .i64 (z next)) ∧ Below W'.heap.size W' w') :
    Calls Try.prog 87 #[.agg (tabA T), .int .i64 n, .int .i64 set] w fun e w' => e = .returned (.int .i64 (mexL ((safeL T n set).map fun x => z (nextI set x)))) ∧ Below w.heap.size w w' := by
  have HM := Aside0.mk (l9Moves_f h1 h2 hp)
  have hga := (game_at h1 h2 hp).2
  have hx : ∀ x, x ∈ inL n set → 0 ≤ nextI set x ∧ nextI set x ≤ 63 ∧ spec_l9Out.f set x = some (nextI set x) := fun x hx => ⟨(pos_range h1 h2 (hga x hx).1).1, (pos_range h1 h2 (hga x hx).1).2, (hga x hx).2.2⟩
  unfold safeL
  obtain ⟨L, hL⟩ : ∃ L, L = inL n set := ⟨_, rfl⟩
  rw [← hL] at HM hx hk ⊢
  have hL6 : L.length ≤ 6 := by rw [hL]; exact inL_le
  obtain ⟨TA, hTA⟩ : ∃ TA, TA = tabA T := ⟨_, rfl⟩
  have hTs : TA.size = 64 := by rw [hTA]; exact tabA_size T
  have hTat : ∀ i : Nat, i < 64 → TA[i]? = some (.bool (T (i : Nat))) := fun i hi => by rw [hTA]; exact tabA_at T i hi
  rw [← hTA] at hk ⊢
  obtain ⟨y, hy⟩ : ∃ y : Int → Int, y = fun x => z (nextI set x) := ⟨_, rfl⟩
  have HY : Aside0 (∀ x, y x = z (nextI set x)) := ⟨fun x => by rw [hy]⟩
  rw [← hy]
  obtain ⟨p, hpp⟩ : ∃ p : Int → Bool, p = fun x => !T (nextI set x) := ⟨_, rfl⟩
  have HP : Aside0 (∀ x, p x = !T (nextI set x)) := ⟨fun x => by rw [hpp]⟩
  rw [← hpp]
  obtain ⟨V, hV⟩ : ∃ V, V = (L.filter p).map y := ⟨_, rfl⟩
  have HV := Aside0.mk hV
  have hV6 : V.length ≤ 6 := by rw [hV, List.length_map]; exact Nat.le_trans (List.length_filter_le _ _) hL6
  rw [← hV]
  have HX := Aside0.mk hx
  have HK := Aside0.mk hk
  have HTs := Aside0.mk hTs
  have HTat := Aside0.mk hTat
  have HBX := Aside0.mk (blk_new w (.cells TA 89))
  have HB0 := Aside0.mk (below_alloc (Below.refl w.heap.size w) (.cells TA 89))
  clear hga hx hk hTs hTat hTA hL hp hy hpp hV
  go_enter Try.func87, Try.ntmps87
  go_wp2_with (first | ((with_reducible refine gate_dst (N := 12) rfl ?_); refine Kd.R_lit (Kd.int .i64) _ 3 ?hg (N := 12) ?hd (xs := ([] : List Int)) (inner := []) (ok := fun _ => True) (okp := fun _ => True) ?hr ?hp (fun _ hk => hk) trivial (Below.refl _ _) (Nat.le_refl _) (by simp) ?_; (case hd => rfl); (case hg => rfl); (case hr => first | (go_simp; done) | (go_simp; rfl)); (case hp => exact (Reps.none _ _)); intro v0 w3 ho4 hb3 hg_ hnew_; clear hg_ hnew_; have HO := Aside0.mk ho4; have HB3 := Aside0.mk hb3; clear ho4 hb3) | (go_at_call 82; refine (spec_l9Moves.calls 10 n set L _ HM.out).mono ?_; rintro e w5 ⟨v5, rfl, ho, hb⟩; have HB5 := Aside0.mk (below_step HB3.out hb); have HO5 := Aside0.mk (Kd.R_below HO.out hb); have HM5 := Aside0.mk ho; have HW5 := Aside0.mk hb; obtain ⟨A5, c5, rfl, hc5, hC5⟩ := Kd.R_reads ho; clear ho hb hC5))
  have hO6 := Kd.R_below (re_ok (ok2 := fun k => k < w3.heap.size ∨ w5.heap.size ≤ k) HO.out (fun k _ h => .inl h)) HW5.out
  have hM6 := re_ok (ok2 := fun k => w3.heap.size ≤ k ∧ k < w5.heap.size) HM5.out (fun k a b => ⟨a, b⟩)
  have hm35 : w3.heap.size ≤ w5.heap.size := HW5.out.size
  obtain ⟨m5, hm5⟩ : ∃ m5, m5 = w5.heap.size := ⟨_, rfl⟩
  have hs5 : m5 ≤ w5.heap.size := by omega
  rw [← hm5] at hO6 hM6 hm35
  generalize w3.heap.size = m3 at hO6 hM6 hm35
  have HO6 := Aside0.mk hO6
  have HM6 := Aside0.mk hM6
  clear hO6 hM6 hm5 HO HO5 HM5 HW5 HB3
  go_loopg [7, 9] L.length (fun gg v7 v9 w' => ∃ i : Nat, v9 = .int .i64 (i : Nat) ∧ i ≤ L.length ∧ L.length - i ≤ gg ∧ m5 ≤ w'.heap.size ∧ Aside0 (Kd.R (Kd.int .i64) 3 w' (w.alloc (.cells TA 89)).heap.size (fun k => k < m3 ∨ m5 ≤ k) v7 (((L.take i).filter p).map y)) ∧ Aside0 (Kd.R (Kd.int .i64) 3 w' m3 (fun k => m3 ≤ k ∧ k < m5) (.slice A5 L.length c5) L) ∧ Aside0 (Below (w.alloc (.cells TA 89)).heap.size (w.alloc (.cells TA 89)) w'))
  case atStart => exact ⟨0, rfl, by omega, by omega, hs5, ⟨HO6.out⟩, ⟨HM6.out⟩, ⟨HB5.out⟩⟩
  case round =>
    obtain ⟨i, rfl, hi, hgg, hsr, HRr, HMr, HBr⟩ := hrel
    by_cases hlt : i < L.length
    · have hltb : decide ((i : Int) < (L.length : Int)) = true := decide_eq_true (by omega)
      obtain ⟨ad, e1, hcell⟩ := Kd.at_int (R_C HMr.out) (i : Int) (by omega) (by omega)
      subst e1
      rw [Int.toNat_natCast] at hcell
      have hmem : rd L (i : Int) ∈ L := by rw [rd_get L i hlt]; exact List.getElem_mem hlt
      obtain ⟨hn0, hn1, hout⟩ := HX.out _ hmem
      have hkx := HK.out _ (List.mem_map.2 ⟨_, hmem, rfl⟩)
      have hpx := HP.out (rd L (i : Int))
      have hyx := HY.out (rd L (i : Int))
      obtain ⟨nx, hnx⟩ : ∃ nx, nx = nextI set (rd L (i : Int)) := ⟨_, rfl⟩
      rw [← hnx] at hn0 hn1 hout hkx hpx hyx
      obtain ⟨s, rfl⟩ := Int.eq_ofNat_of_zero_le hn0
      have k1 : (0 ≤ (s : Int)) = True := eq_true (by omega)
      have k2 : ((s : Int) < 64) = True := eq_true (by omega)
      have hs63 : s < 64 := by omega
      have HOU := Aside0.mk hout
      have HKX := Aside0.mk hkx
      have HPX := Aside0.mk hpx
      have HYX := Aside0.mk hyx
      have HTM := Aside0.mk (take_fm p y L i hlt)
      have HBL := Aside0.mk (blk_below HBX.out HBr.out)
      clear hnx hout hkx hpx hyx hn0 hn1 hmem
      have cT := (blk_cell HBL.out s).trans (HTat.out s hs63)
      cases hT : T (s : Int) with
      | true =>
        rw [hT] at cT
        have HT2 := Aside0.mk hT
        clear hT
        go_wp2_with (first | (go_at_call 83; refine (spec_l9Out.calls set _ (s : Int) _ HOU.out).mono ?_; rintro e w7 ⟨rfl, ⟨nd, rfl⟩⟩))
        go_roundg (L.length - (i + 1))
        case measure => omega
        case rel => exact ⟨i + 1, by go_num, by omega, Nat.le_refl _, hsr, ⟨by rw [HTM.out, HPX.out, HT2.out]; simpa using Kd.R_drewN HRr.out nd⟩, ⟨Kd.R_drewN HMr.out nd⟩, ⟨pw_below_drewN HBr.out nd⟩⟩
      | false =>
        rw [hT] at cT
        have HT2 := Aside0.mk hT
        clear hT
        go_wp2_with (first | (go_at_call 83; refine (spec_l9Out.calls set _ (s : Int) _ HOU.out).mono ?_; rintro e w7 ⟨rfl, ⟨nd, rfl⟩⟩) | ((with_reducible refine gate_ (.load 89 (.tmp 3)) rfl ?_); refine wpList_load_row rfl 89 (.tmp 3) rfl w.heap.size rfl _ _ _ _ HBL.out Try.underlying89 rfl (by rw [HTs.out]; kernel_rfl) ?_) | (go_at_call 87; refine (HKX.out _).mono ?_; rintro e w8 ⟨rfl, hb8⟩; have HB8 := Aside0.mk (below_step (pw_below_drewN HBr.out nd) hb8); have HR8 := Aside0.mk (Kd.R_below (Kd.R_drewN HRr.out nd) hb8); have HM8 := Aside0.mk (Kd.R_below (Kd.R_drewN HMr.out nd) hb8); have hs8 : m5 ≤ w8.heap.size := Nat.le_trans hsr hb8.size; clear hb8) | ((with_reducible refine gate_builtin (b := .append) (xs := #[.tmp 32, .tmp 37]) rfl ?_); at_builtin; refine Kd.R_append (Kd.int .i64) (w0 := w.alloc (.cells TA 89)) (w.alloc (.cells TA 89)).heap.size rfl (.tmp 32) (.tmp 37) 22 3 (.int .i64 0) 8 rfl Try.underlying22 info3 rfl (by decide) (by omega) u7 (((L.take i).filter p).map y) (z (s : Int)) [.int .i64 (z (s : Int))] (fun k => k < m3 ∨ m5 ≤ k) (fun _ => False) rfl rfl ?aP (fun _ hk => hk.elim) ?aF ?aO ?aB ?aS ?aL ?_; (case aP => exact rfl); (case aB => exact HB8.out); (case aF => exact (fun k hk => .inr (by omega))); (case aO => exact HR8.out); (case aS => exact (below_size HB8.out)); (case aL => have h2_ := List.length_take_le i L; have h3_ := List.length_filter_le p (L.take i); rw [List.length_map]; omega); intro v9 w9 ho hb9 hg9 hat; have HR9 := Aside0.mk ho; have HB9 := Aside0.mk hb9; have HG9 := Aside0.mk hg9; have hs9 : m5 ≤ w9.heap.size := Nat.le_trans hs8 hg9.size; clear ho hb9 hg9 hat))
        go_roundg (L.length - (i + 1))
        case measure => omega
        case rel =>
          have hne1 : ∀ k, (m3 ≤ k ∧ k < m5) → some k ≠ u7.ownBlock := fun k hk he => by
            have := HR8.out.1 k he.symm
            omega
          exact ⟨i + 1, by go_num, by omega, Nat.le_refl _, hs9, ⟨by rw [HTM.out, HPX.out, HT2.out, HYX.out]; exact HR9.out⟩, ⟨Kd.R_grown HM8.out HG9.out hne1⟩, ⟨HB9.out⟩⟩
    · have hltb : decide ((i : Int) < (L.length : Int)) = false := decide_eq_false (by omega)
      have hi2 : i = L.length := by omega
      rw [hi2, List.take_length, ← HV.out] at HRr
      obtain ⟨A6, c6, rfl, hc6, hC6⟩ := Kd.R_reads HRr.out
      have HC6 := Aside0.mk hC6
      have HB6 := Aside0.mk (below_step HB0.out HBr.out)
      clear hC6 HRr hi2
      go_wp2
      go_loopg [11] (V.length + 1) (fun gg v8 w' => ∃ j : Nat, v8 = .int .i64 (j : Nat) ∧ V.length + 1 - j ≤ gg ∧ Aside0 (MexAt V j) ∧ Aside0 (Below wr.heap.size wr w'))
      case atStart => exact ⟨0, rfl, by omega, ⟨MexAt.start V⟩, ⟨Below.refl _ _⟩⟩
      case round =>
        obtain ⟨j, rfl, hgg2, HMX, HB7⟩ := hrel
        have hjl := HMX.out.le
        have HH := Aside0.mk (l1Has_f V (j : Int) (by omega) 10 (by omega))
        cases hb : hasB V (j : Int) with
        | true =>
          rw [hb] at HH
          have HMN := Aside0.mk (HMX.out.next hb)
          have hjl2 := HMN.out.le
          clear hb
          go_wp2_with (first | (go_at_call 128; refine (spec_l1Has.calls 10 A6 c6 V (j : Int) _ _ (Kd.C_below HC6.out HB7.out) hc6 HH.out).mono ?_; rintro e w7 ⟨rfl, ⟨nd, rfl⟩⟩))
          go_roundg (V.length + 1 - (j + 1))
          case measure => omega
          case rel => exact ⟨j + 1, by go_num, Nat.le_refl _, HMN, ⟨pw_below_drewN HB7.out nd⟩⟩
        | false =>
          rw [hb] at HH
          have HMO := Aside0.mk (HMX.out.out hb)
          clear hb
          go_wp2_with (first | (go_at_call 128; refine (spec_l1Has.calls 10 A6 c6 V (j : Int) _ _ (Kd.C_below HC6.out HB7.out) hc6 HH.out).mono ?_; rintro e w7 ⟨rfl, ⟨nd, rfl⟩⟩))
          go_ret
          exact ⟨by rw [HMO.out]; rfl, below_step HB6.out (pw_below_drewN HB7.out nd)⟩
theorem l9Number_calls : ∀ (d : Nat) (set : Int) (n : Int) (T : Int → Bool) (w : World), 1 ≤ n → n ≤ 6 → posB n set = true → (inL n set).length ≤ d → Calls Try.prog 87 #[.agg (tabA T), .int .i64 n, .int .i64 set] w fun e w' => e = .returned (.int .i64 (numL d T n set)) ∧ Below w.heap.size w w' := by
  intro d
  induction d with
  | zero =>
    intro set n T w h1 h2 hp hl
    have h0 : inL n set = [] := List.eq_nil_of_length_eq_zero (by omega)
    have := l9Number_step n set T w h1 h2 hp (fun _ => 0) (by rw [h0]; simp)
    unfold safeL at this
    rw [h0] at this
    exact this
  | succ d ih =>
    intro set n T w h1 h2 hp hl
    refine l9Number_step n set T w h1 h2 hp (fun next => numL d T n next) ?_
    intro next hx W'
    obtain ⟨x, hxi, rfl⟩ := List.mem_map.1 hx
    have hga := (game_at h1 h2 hp).2 x hxi
    exact ih _ n T W' h1 h2 hga.1 (by omega)
def spec_KeepNumber.f (k : Nat) (l0 : List Int) (a1 : Int) (a2 : Int) : Option (Int × Bool) := if 2 * l0.length + 10 < k ∧ l0.length ≤ 1048576 then some (numP l0 a1 a2) else none
theorem spec_KeepNumber.mono : ∀ l0 a1 a2 k, LeO (spec_KeepNumber.f k l0 a1 a2) (spec_KeepNumber.f (k + 1) l0 a1 a2) := by
  intro l0 a1 a2 k r h
  unfold spec_KeepNumber.f at h ⊢
  split at h
  · rename_i hc
    rw [if_pos (by omega)]
    exact h
  · cases h
set_option maxHeartbeats 4000000 in
set_option maxRecDepth 100000 in
theorem spec_KeepNumber.calls (k : Nat) (A0 : Option Addr) (c0 : Nat) (l0 : List Int) (a1 : Int) (a2 : Int) (r1 : Int) (r2 : Bool) (w : World) (hr0 : Kd.C (Kd.int .i64) w A0 l0.length l0) (hc0 : l0.length ≤ c0) (h : spec_KeepNumber.f k l0 a1 a2 = some (r1, r2)) :
    Calls Try.prog 46 #[.slice A0 l0.length c0, .int .i64 a1, .int .i64 a2] w fun e w' => e = .returned (.tuple #[.int .i64 r1, .bool r2]) ∧ Below w.heap.size w w' := by
  unfold spec_KeepNumber.f at h
  split at h
  · rename_i hk
    have h := Option.some.inj h
    have HG := Aside0.mk (l9Good_f a1 a2 hk.2 k (by omega))
    have HR0 := Aside0.mk hr0
    unfold numP at h
    cases hg : gameB l0 a1 a2 with
    | false =>
      rw [hg] at h HG
      simp only [Bool.false_eq_true, if_false, Prod.mk.injEq] at h
      obtain ⟨rfl, rfl⟩ := h
      clear hg hr0
      go_enter Try.func46, Try.ntmps46
      go_wp2_with (first | (go_at_call 80; refine (spec_l9Good.calls k A0 c0 l0 a1 a2 false _ HR0.out hc0 HG.out).mono ?_; rintro e w1 ⟨rfl, hb⟩))
      go_ret2
      exact ⟨rfl, hb⟩
    | true =>
      rw [hg] at h HG
      simp only [if_true, Prod.mk.injEq] at h
      obtain ⟨rfl, rfl⟩ := h
      obtain ⟨hw, h1, h2, hp⟩ := gameB_parts hg
      have HT : Aside0 (∀ i : Nat, i < 64 → spec_l3Falls.f (2 * l0.length + 2) l0 (i : Nat) = some (fallT l0 (i : Nat))) := ⟨fun i hi => l3Falls_f hw (decide_eq_true (by omega)) _ (by omega)⟩
      have HTB := l3Table_calls (2 * l0.length + 2) A0 c0 l0 (fallT l0)
      have HN := fun W => l9Number_calls 6 a2 a1 (fallT l0) W h1 h2 hp inL_le
      obtain ⟨TA, hTA⟩ : ∃ TA, TA = tabA (fallT l0) := ⟨_, rfl⟩
      simp only [← hTA] at HTB HN
      have HTB := Aside0.mk HTB
      have HN := Aside0.mk HN
      clear hg hr0 hw hp hTA
      go_enter Try.func46, Try.ntmps46
      go_wp2_with (first | (go_at_call 80; refine (spec_l9Good.calls k A0 c0 l0 a1 a2 true _ HR0.out hc0 HG.out).mono ?_; rintro e w1 ⟨rfl, hb1⟩) | (go_at_call 81; refine (HTB.out _ (Kd.C_below HR0.out hb1) hc0 HT.out).mono ?_; rintro e w4 ⟨rfl, hb2⟩) | (go_at_call 87; refine (HN.out _).mono ?_; rintro e w5 ⟨rfl, hb3⟩))
      go_ret2
      exact ⟨rfl, below_step (below_step hb1 hb2) hb3⟩
  · cases h
end Go.Proofs.Ytjaiienbbmfomaa.Giv
