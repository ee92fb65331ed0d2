import Derived.Test.YtjaiienbbmfomaaGivKeepS
namespace Go.Proofs.Ytjaiienbbmfomaa.Giv
set_option linter.unusedVariables false
set_option linter.unusedSimpArgs false
open Go.RowKit Go.Proofs.YtjaiienbbmfomaaW.PrintWords Go.Proofs.YtjaiienbbmfomaaW.PrintLast Go.Proofs.YtjaiienbbmfomaaW.PrintMore Go.Proofs.Ytjaiienbbmfomaa.Px Go.Proofs.Ytjaiienbbmfomaa.Q
/-- The nails by which the player who is to move wins the game to drop. -/
def dropsL : Nat → (Int → Bool) → Int → Int → List Int
  | 0, _, _, _ => []
  | d + 1, T, n, set => (inL n set).filter fun x => T (nextI set x) || (dropsL d T n (nextI set x)).isEmpty
theorem drops1_enters (args : Array Value) (w : World) : (callFunc 132 args).run Try.prog w = .ok (.enter 132 args) w := enters_of Try.func132 (by kernel_rfl) rfl args w
/-- What drops has to answer at a position. -/
def DropsAt (d : Nat) (g : Nat) (n set : Int) (T : Int → Bool) (w : World) : Prop := Calls Try.prog 91 #[.pointer (some ⟨g, 0, none⟩), .int .i64 set] w fun e w' => ∃ v, e = .returned v ∧ Kd.R (Kd.int .i64) 3 w' w.heap.size (fun _ => True) v (dropsL d T n set) ∧ Below w.heap.size w w'
set_option maxHeartbeats 4000000 in
set_option maxRecDepth 100000 in
theorem drops1_calls (d : Nat) (g b : Nat) (n next : Int) (T : Int → Bool) (t : TypeId) (w0 W : World) (hg : GameIn w0 g n T) (hbx : w0.heap[b]? = some (.cells #[.pointer (some ⟨g, 0, none⟩)] t (0, 0))) (hb : Below w0.heap.size w0 W) (h0 : 0 ≤ next) (h1 : next ≤ 63) (hk : ∀ W', GameIn W' g n T → DropsAt d g n next T W') :
    Calls Try.prog 132 #[.int .i64 next, .pointer (some ⟨b, 0, none⟩)] W fun e w' => e = .returned (.bool (T next || (dropsL d T n next).isEmpty)) ∧ Below W.heap.size W w' := by
  obtain ⟨s, rfl⟩ := Int.eq_ofNat_of_zero_le h0
  have k1 : (0 ≤ (s : Int)) = True := eq_true (by omega)
  have k2 : ((s : Int) < 64) = True := eq_true (by omega)
  have c0 : W.cell? ⟨b, 0, none⟩ = some (.pointer (some ⟨g, 0, none⟩)) := (blk_cell (blk_below hbx hb) 0).trans rfl
  have c1 := (hg.below hb).falls s (by omega)
  have HK := Aside0.mk (hk W (hg.below hb))
  clear hg hbx hb hk
  cases hT : T (s : Int) with
  | true =>
    rw [hT] at c1
    clear hT
    go_enter Try.func132, Try.ntmps132
    go_wp2
    go_ret
    exact ⟨rfl, Below.refl _ _⟩
  | false =>
    rw [hT] at c1
    clear hT
    go_enter Try.func132, Try.ntmps132
    go_wp2_with (first | (go_at_call 91; refine (show Calls _ _ _ W _ from HK.out).mono ?_; rintro e w3 ⟨v, rfl, ho, hb⟩; obtain ⟨A1, c1_, rfl, hc1, hC1⟩ := Kd.R_reads ho; clear ho))
    go_ret
    exact ⟨by rw [isEmpty_len]; rfl, hb⟩
set_option maxHeartbeats 4000000 in
set_option maxRecDepth 100000 in
theorem drops_step (d g : Nat) (n set : Int) (T : Int → Bool) (w : World) (hg : GameIn w g n T) (h1 : 1 ≤ n) (h2 : n ≤ 6) (hp : posB n set = true) (q : Int → Bool) (R : List Int) (hR : R = (inL n set).filter fun x => q (nextI set x)) (hq : ∀ next, next ∈ (inL n set).map (nextI set) → q next = (T next || (dropsL d T n next).isEmpty)) (hk : ∀ next, next ∈ (inL n set).map (nextI set) → ∀ W', GameIn W' g n T → DropsAt d g n next T W') :
    Calls Try.prog 91 #[.pointer (some ⟨g, 0, none⟩), .int .i64 set] w fun e w' => ∃ v, e = .returned v ∧ Kd.R (Kd.int .i64) 3 w' w.heap.size (fun _ => True) v R ∧ Below w.heap.size w w' := by
  have hbw : Below w.heap.size w (w.alloc (.cells #[.pointer (some ⟨g, 0, none⟩)] 94)) := below_alloc (Below.refl _ _) _
  have hg2 := hg.below hbw
  have hbx := blk_new w (.cells #[.pointer (some ⟨g, 0, none⟩)] 94)
  have hasks : Asks 132 #[.pointer (some ⟨w.heap.size, 0, none⟩)] q ((inL n set).map (nextI set)) (w.alloc (.cells #[.pointer (some ⟨g, 0, none⟩)] 94)) := by
    intro W next hx hb
    rw [hq next hx]
    obtain ⟨x, hxi, rfl⟩ := List.mem_map.1 hx
    have hr := pos_range h1 h2 ((game_at h1 h2 hp).2 x hxi).1
    exact drops1_calls d g _ n _ T _ _ W hg2 hbx hb hr.1 hr.2 (hk _ hx)
  have HT := Aside0.mk (that_calls 132 _ drops1_enters q g n set T _ hg2 h1 h2 hasks)
  have HBW := Aside0.mk hbw
  rw [← hR] at HT
  clear hg hR hq hk hg2 hbx hasks hbw
  go_enter Try.func91, Try.ntmps91
  go_wp2_with (first | (go_at_call 126; refine HT.out.mono ?_; rintro e w3 ⟨v, rfl, ho, hb⟩))
  go_ret
  exact ⟨_, rfl, Kd.R_lower ho (below_size HBW.out), below_step HBW.out hb⟩
theorem drops_calls : ∀ (d : Nat) (set : Int) (g : Nat) (n : Int) (T : Int → Bool) (w : World), GameIn w g n T → 1 ≤ n → n ≤ 6 → posB n set = true → (inL n set).length ≤ d → DropsAt d g n set T w := by
  intro d
  induction d with
  | zero =>
    intro set g n T w hg h1 h2 hp hl
    have h0 : inL n set = [] := List.eq_nil_of_length_eq_zero (by omega)
    exact drops_step 0 g n set T w hg h1 h2 hp (fun _ => false) _ (by rw [h0]; rfl) (by rw [h0]; simp) (by rw [h0]; simp)
  | succ d ih =>
    intro set g n T w hg h1 h2 hp hl
    refine drops_step d g n set T w hg h1 h2 hp (fun next => T next || (dropsL d T n next).isEmpty) _ rfl (fun _ _ => rfl) ?_
    intro next hx W' hg'
    obtain ⟨x, hxi, rfl⟩ := List.mem_map.1 hx
    have hga := (game_at h1 h2 hp).2 x hxi
    exact ih _ g n T W' hg' h1 h2 hga.1 (by omega)
/-- What l9Drop has to answer at a position. -/
def LDropAt (d : Nat) (n set : Int) (T : Int → Bool) (w : World) : Prop := Calls Try.prog 131 #[.agg (tabA T), .int .i64 n, .int .i64 set] w fun e w' => e = .returned (.bool (!(dropsL d T n set).isEmpty)) ∧ Below w.heap.size w w'
set_option maxHeartbeats 4000000 in
set_option maxRecDepth 100000 in
theorem l9Drop_step (n set : Int) (T : Int → Bool) (w : World) (h1 : 1 ≤ n) (h2 : n ≤ 6) (hp : posB n set = true) (q z : Int → Bool) (R : List Int) (hR : R = (inL n set).filter fun x => q (nextI set x)) (hq : ∀ next, next ∈ (inL n set).map (nextI set) → q next = (T next || !z next)) (hk : ∀ next, next ∈ (inL n set).map (nextI set) → ∀ W', Calls Try.prog 131 #[.agg (tabA T), .int .i64 n, .int .i64 next] W' fun e w' => e = .returned (.bool (z next)) ∧ Below W'.heap.size W' w') :
    Calls Try.prog 131 #[.agg (tabA T), .int .i64 n, .int .i64 set] w fun e w' => e = .returned (.bool (!R.isEmpty)) ∧ Below w.heap.size w w' := by
  have HM := Aside0.mk (l9Moves_f h1 h2 hp)
  have hga := (game_at h1 h2 hp).2
  have hx : ∀ x, x ∈ inL n set → 0 ≤ nextI set x ∧ nextI set x ≤ 63 ∧ spec_l9Out.f set x = some (nextI set x) := fun x hx => ⟨(pos_range h1 h2 (hga x hx).1).1, (pos_range h1 h2 (hga x hx).1).2, (hga x hx).2.2⟩
  obtain ⟨L, hL⟩ : ∃ L, L = inL n set := ⟨_, rfl⟩
  rw [← hL] at HM hx hq hk hR
  have hL6 : L.length ≤ 6 := by rw [hL]; exact inL_le
  obtain ⟨TA, hTA⟩ : ∃ TA, TA = tabA T := ⟨_, rfl⟩
  have hTs : TA.size = 64 := by rw [hTA]; exact tabA_size T
  have hTat : ∀ i : Nat, i < 64 → TA[i]? = some (.bool (T (i : Nat))) := fun i hi => by rw [hTA]; exact tabA_at T i hi
  rw [← hTA] at hk ⊢
  have HX := Aside0.mk hx
  have HQ := Aside0.mk hq
  have HK := Aside0.mk hk
  have HR := Aside0.mk hR
  have HTs := Aside0.mk hTs
  have HTat := Aside0.mk hTat
  have HBX := Aside0.mk (blk_new w (.cells TA 89))
  have HB0 := Aside0.mk (below_alloc (Below.refl w.heap.size w) (.cells TA 89))
  clear hga hx hq hk hR hTs hTat hTA hL hp
  go_enter Try.func131, Try.ntmps131
  go_wp2_with (first | (go_at_call 82; refine (spec_l9Moves.calls 10 n set L _ HM.out).mono ?_; rintro e w1 ⟨v1, rfl, ho, hb⟩; obtain ⟨A1, c1, rfl, hc1, hC1⟩ := Kd.R_reads ho; have HC1 := Aside0.mk hC1; have HB1 := Aside0.mk (below_step HB0.out hb); have HBX1 := Aside0.mk (blk_below HBX.out hb); clear ho hb hC1))
  go_loopw [8] (fun v w' => ∃ i : Nat, v = .int .i64 (i : Nat) ∧ i ≤ L.length ∧ Aside0 (∀ j : Nat, (j : Int) < (i : Int) → q (nextI set (rd L j)) = false) ∧ Aside0 (Below w1.heap.size w1 w')) (fun v w' => (L.length - intOf v).toNat)
  case atStart => exact ⟨0, rfl, by omega, ⟨fun j hj => by omega⟩, ⟨Below.refl _ _⟩⟩
  case round =>
    obtain ⟨i, rfl, hi, HA, HB⟩ := hrel
    by_cases hlt : i < L.length
    · have hltb : decide ((i : Int) < (L.length : Int)) = true := decide_eq_true (by omega)
      obtain ⟨ad, e1, hcell⟩ := Kd.at_int (Kd.C_below HC1.out HB.out) (i : Int) (by omega) (by omega)
      cases e1
      rw [Int.toNat_natCast] at hcell
      have hmem : rd L (i : Int) ∈ L := by rw [rd_get L i hlt]; exact List.getElem_mem hlt
      obtain ⟨hn0, hn1, hout⟩ := HX.out _ hmem
      have hqx := HQ.out _ (List.mem_map.2 ⟨_, hmem, rfl⟩)
      have hkx := HK.out _ (List.mem_map.2 ⟨_, hmem, rfl⟩)
      obtain ⟨nx, hnx⟩ : ∃ nx, nx = nextI set (rd L (i : Int)) := ⟨_, rfl⟩
      rw [← hnx] at hn0 hn1 hout hqx hkx
      have HNX := Aside0.mk hnx
      obtain ⟨s, rfl⟩ := Int.eq_ofNat_of_zero_le hn0
      have k1 : (0 ≤ (s : Int)) = True := eq_true (by omega)
      have k2 : ((s : Int) < 64) = True := eq_true (by omega)
      have hs63 : s < 64 := by omega
      have HO := Aside0.mk hout
      have HKX := Aside0.mk hkx
      have HQX := Aside0.mk hqx
      have HBXr := Aside0.mk (blk_below HBX1.out HB.out)
      clear hnx hout hqx hkx hn0 hn1 hmem
      have cT := (blk_cell HBXr.out s).trans (HTat.out s hs63)
      cases hT : T (s : Int) with
      | true =>
        rw [hT] at cT
        have HT := Aside0.mk hT
        clear hT
        go_wp2_with (first | (go_at_call 83; refine (spec_l9Out.calls set _ (s : Int) _ HO.out).mono ?_; rintro e w2 ⟨rfl, ⟨nd, rfl⟩⟩))
        go_ret
        rw [HR.out, any_some i hlt (by rw [← HNX.out, HQX.out, HT.out]; rfl)]
        exact ⟨rfl, below_step HB1.out (pw_below_drewN HB.out _)⟩
      | false =>
        rw [hT] at cT
        have HT := Aside0.mk hT
        clear hT
        cases hz : z (s : Int) with
        | true =>
          have HZ := Aside0.mk hz
          clear hz
          go_wp2_with (first | (go_at_call 83; refine (spec_l9Out.calls set _ (s : Int) _ HO.out).mono ?_; rintro e w2 ⟨rfl, ⟨nd, rfl⟩⟩) | ((with_reducible refine gate_ (.load 89 (.tmp 3)) rfl ?_); (refine gate_guard (by rfl) ?_; dsimp only); refine wpList_load_row rfl 89 (.tmp 3) rfl w.heap.size rfl _ _ _ _ HBXr.out Try.underlying89 rfl (by rw [HTs.out]; kernel_rfl) ?_) | (go_at_call 131; refine (HKX.out _).mono ?_; rw [HZ.out]; rintro e w3 ⟨rfl, hb3⟩))
          have HA2 : Aside0 (∀ j : Nat, (j : Int) < ((i + 1 : Nat) : Int) → q (nextI set (rd L j)) = false) := ⟨fun j hj => by
            by_cases hji : j < i
            · exact HA.out j (by omega)
            · have hji2 : j = i := by omega
              rw [hji2, ← HNX.out, HQX.out, HT.out, HZ.out]
              rfl⟩
          go_roundw
          case measure => simp [intOf]; omega
          case rel => exact ⟨i + 1, by go_num, by omega, HA2, ⟨below_step (pw_below_drewN HB.out _) hb3⟩⟩
        | false =>
          have HZ := Aside0.mk hz
          clear hz
          go_wp2_with (first | (go_at_call 83; refine (spec_l9Out.calls set _ (s : Int) _ HO.out).mono ?_; rintro e w2 ⟨rfl, ⟨nd, rfl⟩⟩) | ((with_reducible refine gate_ (.load 89 (.tmp 3)) rfl ?_); (refine gate_guard (by rfl) ?_; dsimp only); refine wpList_load_row rfl 89 (.tmp 3) rfl w.heap.size rfl _ _ _ _ HBXr.out Try.underlying89 rfl (by rw [HTs.out]; kernel_rfl) ?_) | (go_at_call 131; refine (HKX.out _).mono ?_; rw [HZ.out]; rintro e w3 ⟨rfl, hb3⟩))
          go_ret
          rw [HR.out, any_some i hlt (by rw [← HNX.out, HQX.out, HT.out, HZ.out]; rfl)]
          exact ⟨rfl, below_step (below_step HB1.out (pw_below_drewN HB.out _)) hb3⟩
    · have hltb : decide ((i : Int) < (L.length : Int)) = false := decide_eq_false (by omega)
      have hi2 : i = L.length := by omega
      go_wp2
      go_ret
      rw [HR.out, any_none (fun j hj => HA.out j (by omega))]
      exact ⟨rfl, below_step HB1.out HB.out⟩
theorem l9Drop_calls : ∀ (d : Nat) (set : Int) (n : Int) (T : Int → Bool) (w : World), 1 ≤ n → n ≤ 6 → posB n set = true → (inL n set).length ≤ d → LDropAt d n set T w := by
  intro d
  induction d with
  | zero =>
    intro set n T w h1 h2 hp hl
    have h0 : inL n set = [] := List.eq_nil_of_length_eq_zero (by omega)
    exact l9Drop_step n set T w h1 h2 hp (fun _ => false) (fun _ => false) _ (by rw [h0]; rfl) (by rw [h0]; simp) (by rw [h0]; simp)
  | succ d ih =>
    intro set n T w h1 h2 hp hl
    refine l9Drop_step n set T w h1 h2 hp (fun next => T next || (dropsL d T n next).isEmpty) (fun next => !(dropsL d T n next).isEmpty) _ rfl (fun _ _ => by simp) ?_
    intro next hx W'
    obtain ⟨x, hxi, rfl⟩ := List.mem_map.1 hx
    have hga := (game_at h1 h2 hp).2 x hxi
    exact ih _ n T W' h1 h2 hga.1 (by omega)
end Go.Proofs.Ytjaiienbbmfomaa.Giv
