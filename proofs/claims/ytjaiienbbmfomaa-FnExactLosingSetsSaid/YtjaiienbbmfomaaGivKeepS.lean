import Derived.Test.YtjaiienbbmfomaaGivKeep
import Derived.Test.YtjaiienbbmfomaaPx5
import Derived.Test.YtjaiienbbmfomaaPx5
import Derived.Test.YtjaiienbbmfomaaPx5
namespace Go.Proofs.Ytjaiienbbmfomaa.Giv
set_option linter.unusedVariables false
set_option linter.unusedSimpArgs false
open Go.RowKit Go.Proofs.YtjaiienbbmfomaaW.PrintWords Go.Proofs.YtjaiienbbmfomaaW.PrintLast Go.Proofs.YtjaiienbbmfomaaW.PrintMore Go.Proofs.Ytjaiienbbmfomaa.Px Go.Proofs.Ytjaiienbbmfomaa.Q
theorem l9Moves_mono (n set : Int) (r : List Int) : ∀ (d k : Nat), spec_l9Moves.f k n set = some r → spec_l9Moves.f (k + d) n set = some r := by
  intro d
  induction d with
  | zero => intro k h; exact h
  | succ d ih => intro k h; exact spec_l9Moves.mono n set (k + d) r (ih k h)
theorem l9Moves_f {n set : Int} (h1 : 1 ≤ n) (h2 : n ≤ 6) (hp : posB n set = true) : spec_l9Moves.f 10 n set = some (inL n set) := (game_at h1 h2 hp).1
theorem l9Good_f {w : List Int} (n set : Int) (hl : w.length ≤ 1048576) (k : Nat) (hk : 2 * w.length + 5 < k) : spec_l9Good.f k w n set = some (gameB w n set) := by
  unfold spec_l9Good.f gameB
  obtain ⟨k, rfl⟩ : ∃ m, k = m + 1 := ⟨k - 1, by omega⟩
  rw [l2Word_f w (by omega) _ (by omega), Option.bind_some]
  cases hb : wordB w with
  | false => rfl
  | true =>
    rw [if_pos rfl, in_f, Option.bind_some]
    by_cases hn : 1 ≤ n ∧ n ≤ 6
    · have ha := allI_le hn.1 hn.2
      rw [decide_eq_true hn, if_pos rfl, if_pos (by omega), in_f, Option.bind_some, show wrap64 (shl .i64 1 n - 1) = allI n from rfl]
      by_cases hp : 0 ≤ set ∧ set ≤ allI n
      · rw [decide_eq_true hp, show posB n set = true from decide_eq_true hp, spec_l9Good.j0, if_neg (by simp), l3Falls_f hb (decide_eq_true (by omega)) k (by omega), Option.bind_some]
        cases fallT w set with
        | true => rfl
        | false =>
          rw [if_neg (by simp), if_pos (by omega), show wrap64 (shl .i64 1 n - 1) = allI n from rfl, l3Falls_f hb (decide_eq_true (by omega)) k (by omega), Option.bind_some]
          simp
      · rw [decide_eq_false hp, show posB n set = false from decide_eq_false hp, spec_l9Good.j0, if_pos (by simp)]
        rfl
    · rw [decide_eq_false hn]
      rfl
theorem any_none {q : Int → Bool} {set : Int} {L : List Int} (h : ∀ j : Nat, (j : Int) < (L.length : Int) → q (nextI set (rd L j)) = false) : (L.filter fun x => q (nextI set x)) = [] := by
  rw [List.filter_eq_nil_iff]
  intro x hx
  obtain ⟨j, hj, rfl⟩ := List.getElem_of_mem hx
  have := h j (by omega)
  rw [rd_get L j hj] at this
  rw [this]
  exact Bool.false_ne_true
theorem any_some {q : Int → Bool} {set : Int} {L : List Int} (i : Nat) (hi : i < L.length) (h : q (nextI set (rd L (i : Int))) = true) : (L.filter fun x => q (nextI set x)).isEmpty = false := by
  cases hf : L.filter fun x => q (nextI set x) with
  | cons a b => rfl
  | nil =>
    rw [List.filter_eq_nil_iff] at hf
    exact absurd h (hf _ (by rw [rd_get L i hi]; exact List.getElem_mem hi))
/-- What l9Keep has to answer at a position. -/
def LKeepAt (d : Nat) (n set : Int) (T : Int → Bool) (w : World) : Prop := Calls Try.prog 84 #[.agg (tabA T), .int .i64 n, .int .i64 set] w fun e w' => e = .returned (.bool (!(keepsL d T n set).isEmpty)) ∧ Below w.heap.size w w'
set_option maxHeartbeats 4000000 in
set_option maxRecDepth 100000 in
theorem l9Keep_step (n set : Int) (T : Int → Bool) (w : World) (h1 : 1 ≤ n) (h2 : n ≤ 6) (hp : posB n set = true) (q z : Int → Bool) (R : List Int) (hR : R = (inL n set).filter fun x => q (nextI set x)) (hq : ∀ next, next ∈ (inL n set).map (nextI set) → q next = (!T next && !z next)) (hk : ∀ next, next ∈ (inL n set).map (nextI set) → ∀ W', Calls Try.prog 84 #[.agg (tabA T), .int .i64 n, .int .i64 next] W' fun e w' => e = .returned (.bool (z next)) ∧ Below W'.heap.size W' w') :
    Calls Try.prog 84 #[.agg (tabA T), .int .i64 n, .int .i64 set] w fun e w' => e = .returned (.bool (!R.isEmpty)) ∧ Below w.heap.size w w' := by
  have HM := Aside0.mk (l9Moves_f h1 h2 hp)
  have hga := (game_at h1 h2 hp).2
  have hx : ∀ x, x ∈ inL n set → 0 ≤ nextI set x ∧ nextI set x ≤ 63 ∧ spec_l9Out.f set x = some (nextI set x) := fun x hx => ⟨(pos_range h1 h2 (hga x hx).1).1, (pos_range h1 h2 (hga x hx).1).2, (hga x hx).2.2⟩
  obtain ⟨L, hL⟩ : ∃ L, L = inL n set := ⟨_, rfl⟩
  rw [← hL] at HM hx hq hk hR
  have hL6 : L.length ≤ 6 := by rw [hL]; exact inL_le
  obtain ⟨TA, hTA⟩ : ∃ TA, TA = tabA T := ⟨_, rfl⟩
  have hTs : TA.size = 64 := by rw [hTA]; exact tabA_size T
  have hTat : ∀ i : Nat, i < 64 → TA[i]? = some (.bool (T (i : Nat))) := fun i hi => by rw [hTA]; exact tabA_at T i hi
  rw [← hTA] at hk ⊢
  have HX := Aside0.mk hx
  have HQ := Aside0.mk hq
  have HK := Aside0.mk hk
  have HR := Aside0.mk hR
  have HTs := Aside0.mk hTs
  have HTat := Aside0.mk hTat
  have HBX := Aside0.mk (blk_new w (.cells TA 89))
  have HB0 := Aside0.mk (below_alloc (Below.refl w.heap.size w) (.cells TA 89))
  clear hga hx hq hk hR hTs hTat hTA hL hp
  go_enter Try.func84, Try.ntmps84
  go_wp2_with (first | (go_at_call 82; refine (spec_l9Moves.calls 10 n set L _ HM.out).mono ?_; rintro e w1 ⟨v1, rfl, ho, hb⟩; obtain ⟨A1, c1, rfl, hc1, hC1⟩ := Kd.R_reads ho; have HC1 := Aside0.mk hC1; have HB1 := Aside0.mk (below_step HB0.out hb); have HBX1 := Aside0.mk (blk_below HBX.out hb); clear ho hb hC1))
  go_loopw [8] (fun v w' => ∃ i : Nat, v = .int .i64 (i : Nat) ∧ i ≤ L.length ∧ Aside0 (∀ j : Nat, (j : Int) < (i : Int) → q (nextI set (rd L j)) = false) ∧ Aside0 (Below w1.heap.size w1 w')) (fun v w' => (L.length - intOf v).toNat)
  case atStart => exact ⟨0, rfl, by omega, ⟨fun j hj => by omega⟩, ⟨Below.refl _ _⟩⟩
  case round =>
    obtain ⟨i, rfl, hi, HA, HB⟩ := hrel
    by_cases hlt : i < L.length
    · have hltb : decide ((i : Int) < (L.length : Int)) = true := decide_eq_true (by omega)
      obtain ⟨ad, e1, hcell⟩ := Kd.at_int (Kd.C_below HC1.out HB.out) (i : Int) (by omega) (by omega)
      cases e1
      rw [Int.toNat_natCast] at hcell
      have hmem : rd L (i : Int) ∈ L := by rw [rd_get L i hlt]; exact List.getElem_mem hlt
      obtain ⟨hn0, hn1, hout⟩ := HX.out _ hmem
      have hqx := HQ.out _ (List.mem_map.2 ⟨_, hmem, rfl⟩)
      have hkx := HK.out _ (List.mem_map.2 ⟨_, hmem, rfl⟩)
      obtain ⟨nx, hnx⟩ : ∃ nx, nx = nextI set (rd L (i : Int)) := ⟨_, rfl⟩
      rw [← hnx] at hn0 hn1 hout hqx hkx
      have HNX := Aside0.mk hnx
      obtain ⟨s, rfl⟩ := Int.eq_ofNat_of_zero_le hn0
      have k1 : (0 ≤ (s : Int)) = True := eq_true (by omega)
      have k2 : ((s : Int) < 64) = True := eq_true (by omega)
      have hs63 : s < 64 := by omega
      have HO := Aside0.mk hout
      have HKX := Aside0.mk hkx
      have HQX := Aside0.mk hqx
      have HBXr := Aside0.mk (blk_below HBX1.out HB.out)
      clear hnx hout hqx hkx hn0 hn1 hmem
      have cT := (blk_cell HBXr.out s).trans (HTat.out s hs63)
      cases hT : T (s : Int) with
      | true =>
        rw [hT] at cT
        have HT := Aside0.mk hT
        clear hT
        go_wp2_with (first | (go_at_call 83; refine (spec_l9Out.calls set _ (s : Int) _ HO.out).mono ?_; rintro e w2 ⟨rfl, ⟨nd, rfl⟩⟩))
        have HA2 : Aside0 (∀ j : Nat, (j : Int) < ((i + 1 : Nat) : Int) → q (nextI set (rd L j)) = false) := ⟨fun j hj => by
          by_cases hji : j < i
          · exact HA.out j (by omega)
          · have hji2 : j = i := by omega
            rw [hji2, ← HNX.out, HQX.out, HT.out]
            rfl⟩
        go_roundw
        case measure => simp [intOf]; omega
        case rel => exact ⟨i + 1, by go_num, by omega, HA2, ⟨pw_below_drewN HB.out _⟩⟩
      | false =>
        rw [hT] at cT
        have HT := Aside0.mk hT
        clear hT
        cases hz : z (s : Int) with
        | true =>
          have HZ := Aside0.mk hz
          clear hz
          go_wp2_with (first | (go_at_call 83; refine (spec_l9Out.calls set _ (s : Int) _ HO.out).mono ?_; rintro e w2 ⟨rfl, ⟨nd, rfl⟩⟩) | ((with_reducible refine gate_ (.load 89 (.tmp 3)) rfl ?_); (refine gate_guard (by rfl) ?_; dsimp only); refine wpList_load_row rfl 89 (.tmp 3) rfl w.heap.size rfl _ _ _ _ HBXr.out Try.underlying89 rfl (by rw [HTs.out]; kernel_rfl) ?_) | (go_at_call 84; refine (HKX.out _).mono ?_; rw [HZ.out]; rintro e w3 ⟨rfl, hb3⟩))
          have HA2 : Aside0 (∀ j : Nat, (j : Int) < ((i + 1 : Nat) : Int) → q (nextI set (rd L j)) = false) := ⟨fun j hj => by
            by_cases hji : j < i
            · exact HA.out j (by omega)
            · have hji2 : j = i := by omega
              rw [hji2, ← HNX.out, HQX.out, HT.out, HZ.out]
              rfl⟩
          go_roundw
          case measure => simp [intOf]; omega
          case rel => exact ⟨i + 1, by go_num, by omega, HA2, ⟨below_step (pw_below_drewN HB.out _) hb3⟩⟩
        | false =>
          have HZ := Aside0.mk hz
          clear hz
          go_wp2_with (first | (go_at_call 83; refine (spec_l9Out.calls set _ (s : Int) _ HO.out).mono ?_; rintro e w2 ⟨rfl, ⟨nd, rfl⟩⟩) | ((with_reducible refine gate_ (.load 89 (.tmp 3)) rfl ?_); (refine gate_guard (by rfl) ?_; dsimp only); refine wpList_load_row rfl 89 (.tmp 3) rfl w.heap.size rfl _ _ _ _ HBXr.out Try.underlying89 rfl (by rw [HTs.out]; kernel_rfl) ?_) | (go_at_call 84; refine (HKX.out _).mono ?_; rw [HZ.out]; rintro e w3 ⟨rfl, hb3⟩))
          go_ret
          rw [HR.out, any_some i hlt (by rw [← HNX.out, HQX.out, HT.out, HZ.out]; rfl)]
          exact ⟨rfl, below_step (below_step HB1.out (pw_below_drewN HB.out _)) hb3⟩
    · have hltb : decide ((i : Int) < (L.length : Int)) = false := decide_eq_false (by omega)
      have hi2 : i = L.length := by omega
      go_wp2
      go_ret
      rw [HR.out, any_none (fun j hj => HA.out j (by omega))]
      exact ⟨rfl, below_step HB1.out HB.out⟩
theorem l9Keep_calls : ∀ (d : Nat) (set : Int) (n : Int) (T : Int → Bool) (w : World), 1 ≤ n → n ≤ 6 → posB n set = true → (inL n set).length ≤ d → LKeepAt d n set T w := by
  intro d
  induction d with
  | zero =>
    intro set n T w h1 h2 hp hl
    have h0 : inL n set = [] := List.eq_nil_of_length_eq_zero (by omega)
    exact l9Keep_step n set T w h1 h2 hp (fun _ => false) (fun _ => false) _ (by rw [h0]; rfl) (by rw [h0]; simp) (by rw [h0]; simp)
  | succ d ih =>
    intro set n T w h1 h2 hp hl
    refine l9Keep_step n set T w h1 h2 hp (fun next => !T next && (keepsL d T n next).isEmpty) (fun next => !(keepsL d T n next).isEmpty) _ rfl (fun _ _ => by simp) ?_
    intro next hx W'
    obtain ⟨x, hxi, rfl⟩ := List.mem_map.1 hx
    have hga := (game_at h1 h2 hp).2 x hxi
    exact ih _ n T W' h1 h2 hga.1 (by omega)
theorem own_range {e : TypeId} {w : World} {base : Nat} {ok : Nat → Prop} {v : Value} {xs : List Int} (h : Kd.R (Kd.int .i64) e w base ok v xs) (k : Nat) (hk : v.ownBlock = some k) : base ≤ k ∧ k < w.heap.size := by
  rcases (Kd.own_of_R h).2 with ⟨hn, _⟩ | ⟨gb, cap, cur, he, hb, hg, _⟩
  · rw [hn] at hk
    simp [Value.ownBlock] at hk
  · rw [he] at hk
    have : gb = k := by simpa [Value.ownBlock] using hk
    subst this
    exact ⟨hb, (Array.getElem?_eq_some_iff.1 hg).1⟩
theorem re_ok {e : TypeId} {w : World} {base : Nat} {ok ok2 : Nat → Prop} {v : Value} {xs : List Int} (h : Kd.R (Kd.int .i64) e w base ok v xs) (hh : ∀ k, base ≤ k → k < w.heap.size → ok2 k) : Kd.R (Kd.int .i64) e w base ok2 v xs :=
  ⟨fun k hk => hh k (own_range h k hk).1 (own_range h k hk).2, h.2⟩
theorem R_C {e : TypeId} {w : World} {base n c : Nat} {ok : Nat → Prop} {A : Option Addr} {xs : List Int} (h : Kd.R (Kd.int .i64) e w base ok (.slice A n c) xs) : Kd.C (Kd.int .i64) w A xs.length xs := by
  obtain ⟨A', c', he, hl, hC⟩ := Kd.R_reads h
  injection he with h1 h2 h3
  subst h1
  exact hC
theorem take_filter (p : Int → Bool) (L : List Int) (i : Nat) (hi : i < L.length) : (L.take (i + 1)).filter p = (L.take i).filter p ++ (if p (rd L (i : Int)) = true then [rd L (i : Int)] else []) := by
  rw [List.take_succ_eq_append_getElem hi, List.filter_append, rd_get L i hi]
  by_cases h : p L[i] = true
  · rw [if_pos h]; simp [h]
  · rw [if_neg h]; simp [h]
/-- l9Keep's answer at a position behind a move. -/
def LKeepX (n : Int) (T : Int → Bool) (nx : Int) : Prop := ∀ W, LKeepAt 5 n nx T W
def spec_KeepMoves.f (k : Nat) (l0 : List Int) (a1 : Int) (a2 : Int) : Option (List Int × Bool) := if 2 * l0.length + 10 < k ∧ l0.length ≤ 1048576 then some (keepP l0 a1 a2) else none
theorem spec_KeepMoves.mono : ∀ l0 a1 a2 k, LeO (spec_KeepMoves.f k l0 a1 a2) (spec_KeepMoves.f (k + 1) l0 a1 a2) := by
  intro l0 a1 a2 k r h
  unfold spec_KeepMoves.f at h ⊢
  split at h
  · rename_i hc
    rw [if_pos (by omega)]
    exact h
  · cases h
set_option maxHeartbeats 4000000 in
set_option maxRecDepth 100000 in
theorem spec_KeepMoves.calls (k : Nat) (A0 : Option Addr) (c0 : Nat) (l0 : List Int) (a1 : Int) (a2 : Int) (r1 : List Int) (r2 : Bool) (w : World) (hr0 : Kd.C (Kd.int .i64) w A0 l0.length l0) (hc0 : l0.length ≤ c0) (h : spec_KeepMoves.f k l0 a1 a2 = some (r1, r2)) :
    Calls Try.prog 44 #[.slice A0 l0.length c0, .int .i64 a1, .int .i64 a2] w fun e w' => ∃ v0_ : Value, e = .returned (.tuple #[v0_, .bool r2]) ∧ Kd.R (Kd.int .i64) 3 w' w.heap.size (fun _ => True) v0_ r1 ∧ Below w.heap.size w w' := by
  unfold spec_KeepMoves.f at h
  split at h
  · rename_i hk
    have h := Option.some.inj h
    have HG := Aside0.mk (l9Good_f a1 a2 hk.2 k (by omega))
    have HR0 := Aside0.mk hr0
    have HB := Aside0.mk (Below.refl w.heap.size w)
    unfold keepP at h
    cases hg : gameB l0 a1 a2 with
    | false =>
      rw [hg] at h HG
      simp only [Bool.false_eq_true, if_false, Prod.mk.injEq] at h
      obtain ⟨rfl, rfl⟩ := h
      clear hg hr0
      go_enter Try.func44, Try.ntmps44
      go_wp2_with (first | ((with_reducible refine gate_dst (N := 13) rfl ?_); refine Kd.R_lit (Kd.int .i64) _ 3 ?hg (N := 13) ?hd (xs := ([] : List Int)) (inner := []) (ok := fun _ => True) (okp := fun _ => True) ?hr ?hp (fun _ hk => hk) trivial (Below.refl _ _) (Nat.le_refl _) (by simp) ?_; (case hd => rfl); (case hg => rfl); (case hr => first | (go_simp; done) | (go_simp; rfl)); (case hp => exact (Reps.none _ _)); intro v0 w3 ho4 hb hg_ hnew_; clear hg_ hnew_; have HO := Aside0.mk (Kd.R_lower ho4 (below_size HB.out)); have HB1 := Aside0.mk (below_step HB.out hb); clear hb ho4) | (go_at_call 80; refine (spec_l9Good.calls k A0 c0 l0 a1 a2 false _ (Kd.C_below HR0.out HB1.out) hc0 HG.out).mono ?_; rintro e w1 ⟨rfl, hb⟩; have HB2 := Aside0.mk (below_step HB1.out hb); have HO2 := Aside0.mk (Kd.R_below HO.out hb); clear hb))
      go_ret2
      exact ⟨_, rfl, HO2.out, HB2.out⟩
    | true =>
      rw [hg] at h HG
      simp only [if_true, Prod.mk.injEq] at h
      obtain ⟨rfl, rfl⟩ := h
      obtain ⟨hw, h1, h2, hp⟩ := gameB_parts hg
      have hga := (game_at h1 h2 hp).2
      have hx : ∀ x, x ∈ inL a1 a2 → 0 ≤ nextI a2 x ∧ nextI a2 x ≤ 63 ∧ spec_l9Out.f a2 x = some (nextI a2 x) ∧ LKeepX a1 (fallT l0) (nextI a2 x) := fun x hx => ⟨(pos_range h1 h2 (hga x hx).1).1, (pos_range h1 h2 (hga x hx).1).2, (hga x hx).2.2, fun W => l9Keep_calls 5 _ a1 _ W h1 h2 (hga x hx).1 (by have := (hga x hx).2.1; have := @inL_le a1 a2; omega)⟩
      obtain ⟨pr, hpr⟩ : ∃ pr : Int → Bool, pr = fun x => !fallT l0 (nextI a2 x) && (keepsL 5 (fallT l0) a1 (nextI a2 x)).isEmpty := ⟨_, rfl⟩
      have HF : Aside0 (keepsL 6 (fallT l0) a1 a2 = (inL a1 a2).filter pr) := ⟨by rw [hpr]; rfl⟩
      obtain ⟨R, hR⟩ : ∃ R, R = keepsL 6 (fallT l0) a1 a2 := ⟨_, rfl⟩
      rw [← hR] at HF ⊢
      have HPR : Aside0 (∀ x, pr x = (!fallT l0 (nextI a2 x) && (keepsL 5 (fallT l0) a1 (nextI a2 x)).isEmpty)) := ⟨fun x => by rw [hpr]⟩
      have HM := Aside0.mk (l9Moves_f h1 h2 hp)
      obtain ⟨L, hL⟩ : ∃ L, L = inL a1 a2 := ⟨_, rfl⟩
      rw [← hL] at HM hx HF
      have hL6 : L.length ≤ 6 := by rw [hL]; exact inL_le
      have HX := Aside0.mk hx
      have HTB := l3Table_calls (2 * l0.length + 2) A0 c0 l0 (fallT l0)
      have HTAT := fun (i : Nat) (hi : i < 64) => tabA_at (fallT l0) i hi
      have HTS := tabA_size (fallT l0)
      have HT1 := tab_oneCell (fallT l0)
      have HLK : ∀ nx, LKeepX a1 (fallT l0) nx → ∀ W, Calls Try.prog 84 #[.agg (tabA (fallT l0)), .int .i64 a1, .int .i64 nx] W fun e w' => e = .returned (.bool (!(keepsL 5 (fallT l0) a1 nx).isEmpty)) ∧ Below W.heap.size W w' := fun _ h => h
      obtain ⟨TA, hTA⟩ : ∃ TA, TA = tabA (fallT l0) := ⟨_, rfl⟩
      simp only [← hTA] at HTB HTAT HTS HT1 HLK
      have HTB := Aside0.mk HTB
      have HTAT := Aside0.mk HTAT
      have HTs := Aside0.mk HTS
      have HT1 := Aside0.mk HT1
      have HLK := Aside0.mk HLK
      have HT : Aside0 (∀ i : Nat, i < 64 → spec_l3Falls.f (2 * l0.length + 2) l0 (i : Nat) = some (fallT l0 (i : Nat))) := ⟨fun i hi => l3Falls_f hw (decide_eq_true (by omega)) _ (by omega)⟩
      have hz : ∀ w, (zeroValue 89).run Try.prog w = .ok (.agg (Array.replicate 64 (.bool false))) w := (zero_of_info info_tab).1
      have hzs : (Array.replicate 64 (Value.bool false)).size = 64 := by simp
      generalize (Array.replicate 64 (Value.bool false)) = Z at hz hzs
      clear hg hr0 hw hp hga hx hpr hL hTA hR HTS
      go_enter Try.func44, Try.ntmps44
      go_wp2_with (first | ((with_reducible refine gate_dst (N := 13) rfl ?_); refine Kd.R_lit (Kd.int .i64) _ 3 ?hg (N := 13) ?hd (xs := ([] : List Int)) (inner := []) (ok := fun _ => True) (okp := fun _ => True) ?hr ?hp (fun _ hk => hk) trivial (Below.refl _ _) (Nat.le_refl _) (by simp) ?_; (case hd => rfl); (case hg => rfl); (case hr => first | (go_simp; done) | (go_simp; rfl)); (case hp => exact (Reps.none _ _)); intro v0 w3 ho4 hb hg_ hnew_; clear hg_ hnew_; have HO := Aside0.mk (Kd.R_lower ho4 (below_size HB.out)); have HB1 := Aside0.mk (below_step HB.out hb); clear hb ho4) | (go_at_call 80; refine (spec_l9Good.calls k A0 c0 l0 a1 a2 true _ (Kd.C_below HR0.out HB1.out) hc0 HG.out).mono ?_; rintro e w1 ⟨rfl, hb⟩; have HB2 := Aside0.mk (below_step HB1.out hb); have HO2 := Aside0.mk (Kd.R_below HO.out hb); clear hb) | (go_at_call 81; refine (HTB.out _ (Kd.C_below HR0.out HB2.out) hc0 HT.out).mono ?_; rintro e w4 ⟨rfl, hb⟩; have HB4 := Aside0.mk (below_step HB2.out hb); have HO4 := Aside0.mk (Kd.R_below HO2.out hb); clear hb) | ((with_reducible refine gate_callee (f := 82) rfl ?_); refine goesL_ (some 24) rfl rfl Try.func82 (by kernel_rfl) rfl #[.int .i64 a1, .int .i64 a2] rfl (by (try simp only [List.map_toArray, List.map_cons, List.map_nil]); first | done | rfl) ?_; refine (spec_l9Moves.calls 10 a1 a2 L _ HM.out).mono ?_; rintro e w5 ⟨v5, rfl, ho, hb⟩; refine ⟨_, rfl, ?_⟩; have HB5 := Aside0.mk (below_step HB4.out hb); have HO5 := Aside0.mk (Kd.R_below HO4.out hb); have HM5 := Aside0.mk ho; have HW45 := Aside0.mk hb; clear ho hb) | ((with_reducible refine gate_ (.store 89 (.tmp 9) (.tmp 21)) rfl ?_); refine wpList_store_row rfl 89 (.tmp 9) (.tmp 21) rfl w5.heap.size _ rfl rfl _ _ (blk_new w5 _) (by rw [HTs.out]; kernel_rfl) (by rw [hzs, HTs.out]) HT1.out ?_))
      obtain ⟨A5, c5, rfl, hc5, hC5⟩ := Kd.R_reads HM5.out
      clear hC5 hz hzs
      have hB6 := below_row (below_alloc (Below.refl w5.heap.size w5) (.cells Z 89)) (Nat.le_refl _) TA
      have hblk6 : ((w5.alloc (.cells Z 89)).setRow w5.heap.size TA).heap[w5.heap.size]? = some (.cells TA 89 (0, 0)) := setRow_heap _ _ _ _ _ _ (blk_new w5 _)
      have hO6 := Kd.R_below (Kd.R_below (re_ok (ok2 := fun k => k < w4.heap.size ∨ w5.heap.size < k) HO4.out (fun k _ h => .inl h)) HW45.out) hB6
      have hM6 := Kd.R_below (re_ok (ok2 := fun k => w4.heap.size ≤ k ∧ k < w5.heap.size) HM5.out (fun k h1 h2 => ⟨h1, h2⟩)) hB6
      have hBB6 := below_step HB5.out hB6
      have hmg : w4.heap.size ≤ w5.heap.size := HW45.out.size
      generalize (w5.alloc (.cells Z 89)).setRow w5.heap.size TA = w6 at hblk6 hO6 hM6 hBB6 ⊢
      generalize w5.heap.size = gT at hblk6 hO6 hM6 hmg ⊢
      generalize w4.heap.size = m4 at hO6 hM6 hmg
      have HBL6 := Aside0.mk hblk6
      have HO6 := Aside0.mk hO6
      have HM6 := Aside0.mk hM6
      have HB6 := Aside0.mk hBB6
      clear hB6 hblk6 hO6 hM6 hBB6 HO HO2 HO4 HO5 HM5 HW45 HB1 HB2 HB4 HB5
      go_loopg [8, 11] L.length (fun gg v8 v11 w' => ∃ i : Nat, v11 = .int .i64 (i : Nat) ∧ i ≤ L.length ∧ L.length - i ≤ gg ∧ Aside0 (Kd.R (Kd.int .i64) 3 w' w.heap.size (fun k => k < m4 ∨ gT < k) v8 ((L.take i).filter pr)) ∧ Aside0 (Kd.R (Kd.int .i64) 3 w' m4 (fun k => m4 ≤ k ∧ k < gT) (.slice A5 L.length c5) L) ∧ Aside0 (w'.heap[gT]? = some (.cells TA 89 (0, 0))) ∧ Aside0 (Below w.heap.size w w'))
      case atStart => exact ⟨0, rfl, by omega, by omega, ⟨HO6.out⟩, ⟨HM6.out⟩, ⟨HBL6.out⟩, ⟨HB6.out⟩⟩
      case round =>
        obtain ⟨i, rfl, hi, hgg, HRr, HMr, HBL, HBr⟩ := hrel
        by_cases hlt : i < L.length
        · have hltb : decide ((i : Int) < (L.length : Int)) = true := decide_eq_true (by omega)
          have hC' := R_C HMr.out
          obtain ⟨ad, e1, hcell⟩ := Kd.at_int hC' (i : Int) (by omega) (by omega)
          subst e1
          rw [Int.toNat_natCast] at hcell
          have hmem : rd L (i : Int) ∈ L := by rw [rd_get L i hlt]; exact List.getElem_mem hlt
          obtain ⟨hn0, hn1, hout, hkx⟩ := HX.out _ hmem
          have hkx := HLK.out _ hkx
          have hpx := HPR.out (rd L (i : Int))
          obtain ⟨nx, hnx⟩ : ∃ nx, nx = nextI a2 (rd L (i : Int)) := ⟨_, rfl⟩
          rw [← hnx] at hn0 hn1 hout hkx hpx
          obtain ⟨s, rfl⟩ := Int.eq_ofNat_of_zero_le hn0
          have k1 : (0 ≤ (s : Int)) = True := eq_true (by omega)
          have k2 : ((s : Int) < 64) = True := eq_true (by omega)
          have hs63 : s < 64 := by omega
          have HO := Aside0.mk hout
          have HKX := Aside0.mk hkx
          have HPX := Aside0.mk hpx
          have HTF := Aside0.mk (take_filter pr L i hlt)
          have hsz := blk_lt HBL.out
          clear hnx hout hkx hpx hn0 hn1 hmem hC'
          have cT := (blk_cell HBL.out s).trans (HTAT.out s hs63)
          cases hT : fallT l0 (s : Int) with
          | true =>
            rw [hT] at cT
            have HT2 := Aside0.mk hT
            clear hT
            go_wp2_with (first | (go_at_call 83; refine (spec_l9Out.calls a2 _ (s : Int) _ HO.out).mono ?_; rintro e w7 ⟨rfl, ⟨nd, rfl⟩⟩))
            go_roundg (L.length - (i + 1))
            case measure => omega
            case rel => exact ⟨i + 1, by go_num, by omega, Nat.le_refl _, ⟨by rw [HTF.out, HPX.out, HT2.out]; simpa using Kd.R_drewN HRr.out nd⟩, ⟨Kd.R_drewN HMr.out nd⟩, ⟨HBL.out⟩, ⟨pw_below_drewN HBr.out nd⟩⟩
          | false =>
            rw [hT] at cT
            have HT2 := Aside0.mk hT
            clear hT
            cases hz : (keepsL 5 (fallT l0) a1 (s : Int)).isEmpty with
            | false =>
              have HZ := Aside0.mk hz
              clear hz
              go_wp2_with (first | (go_at_call 83; refine (spec_l9Out.calls a2 _ (s : Int) _ HO.out).mono ?_; rintro e w7 ⟨rfl, ⟨nd, rfl⟩⟩) | ((with_reducible refine gate_ (.load 89 (.tmp 9)) rfl ?_); (refine gate_guard (by rfl) ?_; dsimp only); refine wpList_load_row rfl 89 (.tmp 9) rfl gT rfl _ _ _ _ HBL.out Try.underlying89 rfl (by rw [HTs.out]; kernel_rfl) ?_) | (go_at_call 84; refine (HKX.out _).mono ?_; rw [HZ.out]; rintro e w8 ⟨rfl, hb8⟩; have HB8 := Aside0.mk (below_step (pw_below_drewN HBr.out nd) hb8); have HR8 := Aside0.mk (Kd.R_below (Kd.R_drewN HRr.out nd) hb8); have HM8 := Aside0.mk (Kd.R_below (Kd.R_drewN HMr.out nd) hb8); have HBL8 := Aside0.mk (blk_below (show (wr.drewN nd).heap[gT]? = _ from HBL.out) hb8); have hs8 : gT < w8.heap.size := blk_lt HBL8.out))
              go_roundg (L.length - (i + 1))
              case measure => omega
              case rel => exact ⟨i + 1, by go_num, by omega, Nat.le_refl _, ⟨by rw [HTF.out, HPX.out, HT2.out, HZ.out]; simpa using HR8.out⟩, ⟨HM8.out⟩, ⟨HBL8.out⟩, ⟨HB8.out⟩⟩
            | true =>
              have HZ := Aside0.mk hz
              clear hz
              go_wp2_with (first | (go_at_call 83; refine (spec_l9Out.calls a2 _ (s : Int) _ HO.out).mono ?_; rintro e w7 ⟨rfl, ⟨nd, rfl⟩⟩) | ((with_reducible refine gate_ (.load 89 (.tmp 9)) rfl ?_); (refine gate_guard (by rfl) ?_; dsimp only); refine wpList_load_row rfl 89 (.tmp 9) rfl gT rfl _ _ _ _ HBL.out Try.underlying89 rfl (by rw [HTs.out]; kernel_rfl) ?_) | (go_at_call 84; refine (HKX.out _).mono ?_; rw [HZ.out]; rintro e w8 ⟨rfl, hb8⟩; have HB8 := Aside0.mk (below_step (pw_below_drewN HBr.out nd) hb8); have HR8 := Aside0.mk (Kd.R_below (Kd.R_drewN HRr.out nd) hb8); have HM8 := Aside0.mk (Kd.R_below (Kd.R_drewN HMr.out nd) hb8); have HBL8 := Aside0.mk (blk_below (show (wr.drewN nd).heap[gT]? = _ from HBL.out) hb8); have hs8 : gT < w8.heap.size := blk_lt HBL8.out; obtain ⟨ad8, e8, hc8⟩ := Kd.at_int (R_C HM8.out) (i : Int) (by omega) (by omega); obtain rfl := Option.some.inj e8; rw [Int.toNat_natCast] at hc8) | ((with_reducible refine gate_builtin (b := .append) (xs := #[.tmp 48, .tmp 53]) rfl ?_); at_builtin; refine Kd.R_append (Kd.int .i64) (w0 := w) w.heap.size rfl (.tmp 48) (.tmp 53) 22 3 (.int .i64 0) 8 rfl Try.underlying22 info3 rfl (by decide) (by omega) u8 ((L.take i).filter pr) (rd L (i : Int)) [.int .i64 (rd L (i : Int))] (fun k => k < m4 ∨ gT < k) (fun _ => False) rfl rfl ?aP (fun _ hk => hk.elim) ?aF ?aO ?aB ?aS ?aL ?_; (case aP => exact rfl); (case aB => exact HB8.out); (case aF => exact (fun k hk => .inr (by omega))); (case aO => exact HR8.out); (case aS => exact (below_size HB8.out)); (case aL => have h1_ := List.length_filter_le pr (L.take i); have h2_ := List.length_take_le i L; omega); intro v9 w9 ho hb9 hg9 hat; have HR9 := Aside0.mk ho; have HB9 := Aside0.mk hb9; have HG9 := Aside0.mk hg9; clear ho hb9 hg9 hat))
              go_roundg (L.length - (i + 1))
              case measure => omega
              case rel =>
                have hne1 : ∀ k, (m4 ≤ k ∧ k < gT) → some k ≠ u8.ownBlock := fun k hk he => by
                  have := HR8.out.1 k he.symm
                  omega
                have hne2 : some gT ≠ u8.ownBlock := fun he => by
                  have := HR8.out.1 gT he.symm
                  omega
                exact ⟨i + 1, by go_num, by omega, Nat.le_refl _, ⟨by rw [HTF.out, HPX.out, HT2.out, HZ.out]; exact HR9.out⟩, ⟨Kd.R_grown HM8.out HG9.out hne1⟩, ⟨blk_grown HBL8.out HG9.out hne2⟩, ⟨HB9.out⟩⟩
        · have hltb : decide ((i : Int) < (L.length : Int)) = false := decide_eq_false (by omega)
          have hi2 : i = L.length := by omega
          go_wp2
          go_ret2
          rw [hi2, List.take_length, ← HF.out] at HRr
          exact ⟨_, rfl, re_ok HRr.out (fun _ _ _ => trivial), HBr.out⟩
  · cases h
end Go.Proofs.Ytjaiienbbmfomaa.Giv
