import Derived.Test.YtjaiienbbmfomaaGivKeepS
import Derived.Test.YtjaiienbbmfomaaQNumb
import Derived.Test.YtjaiienbbmfomaaPx1
namespace Go.Proofs.Ytjaiienbbmfomaa.Giv
set_option linter.unusedVariables false
set_option linter.unusedSimpArgs false
open Go.RowKit Go.Proofs.YtjaiienbbmfomaaW.PrintWords Go.Proofs.YtjaiienbbmfomaaW.PrintLast Go.Proofs.YtjaiienbbmfomaaW.PrintMore Go.Proofs.Ytjaiienbbmfomaa.Px Go.Proofs.Ytjaiienbbmfomaa.Q
theorem safe1_enters (args : Array Value) (w : World) : (callFunc 156 args).run Try.prog w = .ok (.enter 156 args) w := enters_of Try.func156 (by kernel_rfl) rfl args w
set_option maxHeartbeats 4000000 in
set_option maxRecDepth 100000 in
theorem safe1_calls (g b : Nat) (n next : Int) (T : Int → Bool) (t : TypeId) (w0 W : World) (hg : GameIn w0 g n T) (hbx : w0.heap[b]? = some (.cells #[.pointer (some ⟨g, 0, none⟩)] t (0, 0))) (hb : Below w0.heap.size w0 W) (h0 : 0 ≤ next) (h1 : next ≤ 63) :
    Calls Try.prog 156 #[.int .i64 next, .pointer (some ⟨b, 0, none⟩)] W fun e w' => e = .returned (.bool (!T next)) ∧ Below W.heap.size W w' := by
  obtain ⟨s, rfl⟩ := Int.eq_ofNat_of_zero_le h0
  have k1 : (0 ≤ (s : Int)) = True := eq_true (by omega)
  have k2 : ((s : Int) < 64) = True := eq_true (by omega)
  have c0 : W.cell? ⟨b, 0, none⟩ = some (.pointer (some ⟨g, 0, none⟩)) := (blk_cell (blk_below hbx hb) 0).trans rfl
  have c1 := (hg.below hb).falls s (by omega)
  clear hg hbx hb
  go_enter Try.func156, Try.ntmps156
  go_wp2
  go_ret
  exact ⟨rfl, Below.refl _ _⟩
set_option maxHeartbeats 4000000 in
set_option maxRecDepth 100000 in
theorem safe_calls (g : Nat) (n set : Int) (T : Int → Bool) (w : World) (hg : GameIn w g n T) (h1 : 1 ≤ n) (h2 : n ≤ 6) (hp : posB n set = true) :
    Calls Try.prog 129 #[.pointer (some ⟨g, 0, none⟩), .int .i64 set] w fun e w' => ∃ v, e = .returned v ∧ Kd.R (Kd.int .i64) 3 w' w.heap.size (fun _ => True) v (safeL T n set) ∧ Below w.heap.size w w' := by
  have hbw : Below w.heap.size w (w.alloc (.cells #[.pointer (some ⟨g, 0, none⟩)] 94)) := below_alloc (Below.refl _ _) _
  have hg2 := hg.below hbw
  have hbx := blk_new w (.cells #[.pointer (some ⟨g, 0, none⟩)] 94)
  have hasks : Asks 156 #[.pointer (some ⟨w.heap.size, 0, none⟩)] (fun x => !T x) ((inL n set).map (nextI set)) (w.alloc (.cells #[.pointer (some ⟨g, 0, none⟩)] 94)) := by
    intro W next hx hb
    obtain ⟨x, hxi, rfl⟩ := List.mem_map.1 hx
    have hr := pos_range h1 h2 ((game_at h1 h2 hp).2 x hxi).1
    exact safe1_calls g _ n _ T _ _ W hg2 hbx hb hr.1 hr.2
  have HT := Aside0.mk (that_calls 156 _ safe1_enters (fun x => !T x) g n set T _ hg2 h1 h2 hasks)
  have HBW := Aside0.mk hbw
  unfold safeL
  clear hg hg2 hbx hasks hbw
  go_enter Try.func129, Try.ntmps129
  go_wp2_with (first | (go_at_call 126; refine HT.out.mono ?_; rintro e w3 ⟨v, rfl, ho, hb⟩))
  go_ret
  exact ⟨_, rfl, Kd.R_lower ho (below_size HBW.out), below_step HBW.out hb⟩
theorem take_map (z : Int → Int) (L : List Int) (i : Nat) (hi : i < L.length) : (L.take (i + 1)).map z = (L.take i).map z ++ [z (rd L (i : Int))] := by
  rw [List.take_succ_eq_append_getElem hi, List.map_append, rd_get L i hi]
  rfl
set_option maxHeartbeats 4000000 in
set_option maxRecDepth 100000 in
theorem number_step (g : Nat) (n set : Int) (T : Int → Bool) (w : World) (hg : GameIn w g n T) (h1 : 1 ≤ n) (h2 : n ≤ 6) (hp : posB n set = true) (z : Int → Int) (hk : ∀ next, next ∈ (inL n set).map (nextI set) → ∀ W', GameIn W' g n T → Calls Try.prog 88 #[.pointer (some ⟨g, 0, none⟩), .int .i64 next] W' fun e w' => e = .returned (.int .i64 (z next)) ∧ Below W'.heap.size W' w') :
    Calls Try.prog 88 #[.pointer (some ⟨g, 0, none⟩), .int .i64 set] w fun e w' => e = .returned (.int .i64 (mexL ((safeL T n set).map fun x => z (nextI set x)))) ∧ Below w.heap.size w w' := by
  have HG := Aside0.mk hg
  have HSF : Aside0 (∀ W, GameIn W g n T → Calls Try.prog 129 #[.pointer (some ⟨g, 0, none⟩), .int .i64 set] W fun e w' => ∃ v, e = .returned v ∧ Kd.R (Kd.int .i64) 3 w' W.heap.size (fun _ => True) v (safeL T n set) ∧ Below W.heap.size W w') := ⟨fun W hW => safe_calls g n set T W hW h1 h2 hp⟩
  have hx : ∀ x, x ∈ safeL T n set → (1 ≤ x ∧ x ≤ 6) ∧ ∀ W', GameIn W' g n T → Calls Try.prog 88 #[.pointer (some ⟨g, 0, none⟩), .int .i64 (Go.bits .or .i64 set (nb x))] W' fun e w' => e = .returned (.int .i64 (z (nextI set x))) ∧ Below W'.heap.size W' w' := fun x hx => by
    have hxi := (List.mem_filter.1 hx).1
    exact ⟨⟨(inL_nail hxi).1, (inL_nail hxi).2.1⟩, hk _ (List.mem_map.2 ⟨x, hxi, rfl⟩)⟩
  have hL6 : (safeL T n set).length ≤ 6 := Nat.le_trans (List.length_filter_le _ _) inL_le
  obtain ⟨L, hL⟩ : ∃ L, L = safeL T n set := ⟨_, rfl⟩
  rw [← hL] at HSF hx hL6 ⊢
  obtain ⟨y, hy⟩ : ∃ y : Int → Int, y = fun x => z (nextI set x) := ⟨_, rfl⟩
  have HY : Aside0 (∀ x, y x = z (nextI set x)) := ⟨fun x => by rw [hy]⟩
  rw [← hy]
  have HX := Aside0.mk hx
  have HB := Aside0.mk (Below.refl w.heap.size w)
  obtain ⟨V, hV⟩ : ∃ V, V = L.map y := ⟨_, rfl⟩
  have HV := Aside0.mk hV
  have hV6 : V.length ≤ 6 := by rw [hV, List.length_map]; exact hL6
  rw [← hV]
  clear hg hk hx hL hy hp hV
  go_enter Try.func88, Try.ntmps88
  go_wp2_with (first | ((with_reducible refine gate_dst (N := 9) rfl ?_); refine Kd.R_lit (Kd.int .i64) _ 3 ?hg (N := 9) ?hd (xs := ([] : List Int)) (inner := []) (ok := fun _ => True) (okp := fun _ => True) ?hr ?hp (fun _ hk => hk) trivial (Below.refl _ _) (Nat.le_refl _) (by simp) ?_; (case hd => rfl); (case hg => rfl); (case hr => first | (go_simp; done) | (go_simp; rfl)); (case hp => exact (Reps.none _ _)); intro v0 w3 ho4 hb hg_ hnew_; clear hg_ hnew_; have HO := Aside0.mk (Kd.R_lower ho4 (below_size HB.out)); have HB1 := Aside0.mk (below_step HB.out hb); clear hb ho4) | (go_at_call 129; refine (HSF.out _ (HG.out.below HB1.out)).mono ?_; rintro e w5 ⟨v5, rfl, ho, hb⟩; have HB5 := Aside0.mk (below_step HB1.out hb); have HO5 := Aside0.mk (Kd.R_below HO.out hb); have HM5 := Aside0.mk ho; have HW5 := Aside0.mk hb; obtain ⟨A5, c5, rfl, hc5, hC5⟩ := Kd.R_reads ho; clear ho hb hC5))
  have hO6 := Kd.R_below (re_ok (ok2 := fun k => k < w3.heap.size ∨ w5.heap.size ≤ k) HO.out (fun k _ h => .inl h)) HW5.out
  have hM6 := re_ok (ok2 := fun k => w3.heap.size ≤ k ∧ k < w5.heap.size) HM5.out (fun k a b => ⟨a, b⟩)
  have hm35 : w3.heap.size ≤ w5.heap.size := HW5.out.size
  obtain ⟨m5, hm5⟩ : ∃ m5, m5 = w5.heap.size := ⟨_, rfl⟩
  have hs5 : m5 ≤ w5.heap.size := by omega
  rw [← hm5] at hO6 hM6 hm35
  generalize w3.heap.size = m3 at hO6 hM6 hm35
  have HO6 := Aside0.mk hO6
  have HM6 := Aside0.mk hM6
  clear hO6 hM6 hm5 HO HO5 HM5 HW5 HB1
  go_loopg [5, 14] L.length (fun gg v5 v14 w' => ∃ i : Nat, v14 = .int .i64 (i : Nat) ∧ i ≤ L.length ∧ L.length - i ≤ gg ∧ m5 ≤ w'.heap.size ∧ Aside0 (Kd.R (Kd.int .i64) 3 w' w.heap.size (fun k => k < m3 ∨ m5 ≤ k) v5 ((L.take i).map y)) ∧ Aside0 (Kd.R (Kd.int .i64) 3 w' m3 (fun k => m3 ≤ k ∧ k < m5) (.slice A5 L.length c5) L) ∧ Aside0 (Below w.heap.size w w'))
  case atStart => exact ⟨0, rfl, by omega, by omega, hs5, ⟨HO6.out⟩, ⟨HM6.out⟩, ⟨HB5.out⟩⟩
  case round =>
    obtain ⟨i, rfl, hi, hgg, hsr, HRr, HMr, HBr⟩ := hrel
    by_cases hlt : i < L.length
    · have hltb : decide ((i : Int) < (L.length : Int)) = true := decide_eq_true (by omega)
      obtain ⟨ad, e1, hcell⟩ := Kd.at_int (R_C HMr.out) (i : Int) (by omega) (by omega)
      subst e1
      rw [Int.toNat_natCast] at hcell
      have hmem : rd L (i : Int) ∈ L := by rw [rd_get L i hlt]; exact List.getElem_mem hlt
      obtain ⟨hnl, hkx⟩ := HX.out _ hmem
      have HN := Aside0.mk (nb_f hnl.1 hnl.2)
      have HKX := Aside0.mk hkx
      have HTM := Aside0.mk (take_map y L i hlt)
      have HYi := Aside0.mk (HY.out (rd L (i : Int)))
      clear hmem hnl hkx
      go_wp2_with (first | (go_at_call 118; refine (impl_nailBit.calls (rd L (i : Int)) (nb (rd L (i : Int))) _ HN.out).mono ?_; rintro e w7 ⟨rfl, hb7⟩; have HB7 := Aside0.mk (below_step HBr.out hb7); have HR7 := Aside0.mk (Kd.R_below HRr.out hb7); have HM7 := Aside0.mk (Kd.R_below HMr.out hb7); have hs7 : m5 ≤ w7.heap.size := Nat.le_trans hsr hb7.size; clear hb7) | (go_at_call 88; refine (HKX.out _ (HG.out.below HB7.out)).mono ?_; rintro e w8 ⟨rfl, hb8⟩; have HB8 := Aside0.mk (below_step HB7.out hb8); have HR8 := Aside0.mk (Kd.R_below HR7.out hb8); have HM8 := Aside0.mk (Kd.R_below HM7.out hb8); have hs8 : m5 ≤ w8.heap.size := Nat.le_trans hs7 hb8.size; clear hb8) | ((with_reducible refine gate_builtin (b := .append) (xs := #[.tmp 18, .tmp 25]) rfl ?_); at_builtin; refine Kd.R_append (Kd.int .i64) (w0 := w) w.heap.size rfl (.tmp 18) (.tmp 25) 22 3 (.int .i64 0) 8 rfl Try.underlying22 info3 rfl (by decide) (by omega) u5 ((L.take i).map y) (z (nextI set (rd L (i : Int)))) [.int .i64 (z (nextI set (rd L (i : Int))))] (fun k => k < m3 ∨ m5 ≤ k) (fun _ => False) rfl rfl ?aP (fun _ hk => hk.elim) ?aF ?aO ?aB ?aS ?aL ?_; (case aP => exact rfl); (case aB => exact HB8.out); (case aF => exact (fun k hk => .inr (by omega))); (case aO => exact HR8.out); (case aS => exact (below_size HB8.out)); (case aL => have h2_ := List.length_take_le i L; rw [List.length_map]; omega); intro v9 w9 ho hb9 hg9 hat; have HR9 := Aside0.mk ho; have HB9 := Aside0.mk hb9; have HG9 := Aside0.mk hg9; have hs9 : m5 ≤ w9.heap.size := Nat.le_trans hs8 hg9.size; clear ho hb9 hg9 hat))
      go_roundg (L.length - (i + 1))
      case measure => omega
      case rel =>
        have hne1 : ∀ k, (m3 ≤ k ∧ k < m5) → some k ≠ u5.ownBlock := fun k hk he => by
          have := HR8.out.1 k he.symm
          omega
        exact ⟨i + 1, by go_num, by omega, Nat.le_refl _, hs9, ⟨by rw [HTM.out, HYi.out]; exact HR9.out⟩, ⟨Kd.R_grown HM8.out HG9.out hne1⟩, ⟨HB9.out⟩⟩
    · have hltb : decide ((i : Int) < (L.length : Int)) = false := decide_eq_false (by omega)
      have hi2 : i = L.length := by omega
      rw [hi2, List.take_length, ← HV.out] at HRr
      obtain ⟨A6, c6, rfl, hc6, hC6⟩ := Kd.R_reads HRr.out
      have HC6 := Aside0.mk hC6
      have HB6 := Aside0.mk HBr.out
      clear hC6 HRr hi2
      go_wp2
      go_loopg [8] (V.length + 1) (fun gg v8 w' => ∃ j : Nat, v8 = .int .i64 (j : Nat) ∧ V.length + 1 - j ≤ gg ∧ Aside0 (MexAt V j) ∧ Aside0 (Below wr.heap.size wr w'))
      case atStart => exact ⟨0, rfl, by omega, ⟨MexAt.start V⟩, ⟨Below.refl _ _⟩⟩
      case round =>
        obtain ⟨j, rfl, hgg2, HMX, HB7⟩ := hrel
        have hjl := HMX.out.le
        have HH := Aside0.mk (contains_f V (j : Int) (by omega) 10 (by omega))
        cases hb : hasB V (j : Int) with
        | true =>
          rw [hb] at HH
          have HMN := Aside0.mk (HMX.out.next hb)
          have hjl2 := HMN.out.le
          clear hb
          go_wp2_with (first | (go_at_call 130; refine (slices_Contains_int_int.calls 10 A6 c6 V (j : Int) _ _ (Kd.C_below HC6.out HB7.out) hc6 HH.out).mono ?_; rintro e w7 ⟨rfl, ⟨nd, rfl⟩⟩))
          go_roundg (V.length + 1 - (j + 1))
          case measure => omega
          case rel => exact ⟨j + 1, by go_num, Nat.le_refl _, HMN, ⟨pw_below_drewN HB7.out nd⟩⟩
        | false =>
          rw [hb] at HH
          have HMO := Aside0.mk (HMX.out.out hb)
          clear hb
          go_wp2_with (first | (go_at_call 130; refine (slices_Contains_int_int.calls 10 A6 c6 V (j : Int) _ _ (Kd.C_below HC6.out HB7.out) hc6 HH.out).mono ?_; rintro e w7 ⟨rfl, ⟨nd, rfl⟩⟩))
          go_ret
          exact ⟨by rw [HMO.out]; rfl, below_step HB6.out (pw_below_drewN HB7.out nd)⟩
theorem number_calls : ∀ (d : Nat) (set : Int) (g : Nat) (n : Int) (T : Int → Bool) (w : World), GameIn w g n T → 1 ≤ n → n ≤ 6 → posB n set = true → (inL n set).length ≤ d → Calls Try.prog 88 #[.pointer (some ⟨g, 0, none⟩), .int .i64 set] w fun e w' => e = .returned (.int .i64 (numL d T n set)) ∧ Below w.heap.size w w' := by
  intro d
  induction d with
  | zero =>
    intro set g n T w hg h1 h2 hp hl
    have h0 : inL n set = [] := List.eq_nil_of_length_eq_zero (by omega)
    have := number_step g n set T w hg h1 h2 hp (fun _ => 0) (by rw [h0]; simp)
    unfold safeL at this
    rw [h0] at this
    exact this
  | succ d ih =>
    intro set g n T w hg h1 h2 hp hl
    refine number_step g n set T w hg h1 h2 hp (fun next => numL d T n next) ?_
    intro next hx W' hg'
    obtain ⟨x, hxi, rfl⟩ := List.mem_map.1 hx
    have hga := (game_at h1 h2 hp).2 x hxi
    exact ih _ g n T W' hg' h1 h2 hga.1 (by omega)
def numP (w : List Int) (n set : Int) : Int × Bool := if gameB w n set = true then (numL 6 (fallT w) n set, true) else (0, false)
def impl_KeepNumber.f (k : Nat) (l0 : List Int) (a1 : Int) (a2 : Int) : Option (Int × Bool) := if 2 * l0.length + 10 < k ∧ l0.length ≤ 1048576 then some (numP l0 a1 a2) else none
theorem impl_KeepNumber.mono : ∀ l0 a1 a2 k, LeO (impl_KeepNumber.f k l0 a1 a2) (impl_KeepNumber.f (k + 1) l0 a1 a2) := by
  intro l0 a1 a2 k r h
  unfold impl_KeepNumber.f at h ⊢
  split at h
  · rename_i hc
    rw [if_pos (by omega)]
    exact h
  · cases h
set_option maxHeartbeats 4000000 in
set_option maxRecDepth 100000 in
theorem impl_KeepNumber.calls (k : Nat) (A0 : Option Addr) (c0 : Nat) (l0 : List Int) (a1 : Int) (a2 : Int) (r1 : Int) (r2 : Bool) (w : World) (hr0 : Kd.C (Kd.int .i64) w A0 l0.length l0) (hc0 : l0.length ≤ c0) (h : impl_KeepNumber.f k l0 a1 a2 = some (r1, r2)) :
    Calls Try.prog 47 #[.slice A0 l0.length c0, .int .i64 a1, .int .i64 a2] w fun e w' => e = .returned (.tuple #[.int .i64 r1, .bool r2]) ∧ Below w.heap.size w w' := by
  have HGA := Aside0.mk (gameAt_calls A0 c0 l0 a1 a2 w hr0 hc0)
  unfold impl_KeepNumber.f at h
  split at h
  · have h := Option.some.inj h
    unfold numP at h
    cases hg : gameB l0 a1 a2 with
    | false =>
      rw [hg] at h HGA
      simp only [Bool.false_eq_true, if_false, Prod.mk.injEq] at h
      obtain ⟨rfl, rfl⟩ := h
      clear hg hr0
      go_enter Try.func47, Try.ntmps47
      go_wp2_with (first | (go_at_call 85; refine HGA.out.mono ?_; rintro e w1 ⟨p, rfl, HP, hb⟩))
      go_ret2
      exact ⟨rfl, hb⟩
    | true =>
      rw [hg] at h HGA
      simp only [if_true, Prod.mk.injEq] at h
      obtain ⟨rfl, rfl⟩ := h
      obtain ⟨hw, h1, h2, hp⟩ := gameB_parts hg
      have HK : Aside0 (∀ g W, GameIn W g a1 (fallT l0) → Calls Try.prog 88 #[.pointer (some ⟨g, 0, none⟩), .int .i64 a2] W fun e w' => e = .returned (.int .i64 (numL 6 (fallT l0) a1 a2)) ∧ Below W.heap.size W w') := ⟨fun g W hgi => number_calls 6 a2 g a1 (fallT l0) W hgi h1 h2 hp inL_le⟩
      clear hg hr0 hw hp
      go_enter Try.func47, Try.ntmps47
      go_wp2_with (first | (go_at_call 85; refine HGA.out.mono ?_; rintro e w1 ⟨p, rfl, HP, hb⟩; obtain ⟨g, rfl, hgi⟩ := HP.out rfl) | (go_at_call 88; refine (HK.out g _ hgi).mono ?_; rintro e w2 ⟨rfl, hb2⟩))
      go_ret2
      exact ⟨rfl, below_step hb hb2⟩
  · cases h
end Go.Proofs.Ytjaiienbbmfomaa.Giv
