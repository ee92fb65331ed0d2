import Derived.Test.YtjaiienbbmfomaaQGame
import Derived.Test.YtjaiienbbmfomaaGivTab
import Derived.Test.YtjaiienbbmfomaaGivDel
import Derived.Deep.RegionWith
import Derived.Deep.QuietTactic
import Derived.BigQuiet
import Derived.Test.YtjaiienbbmfomaaPx7
namespace Go.Proofs.Ytjaiienbbmfomaa.Giv
set_option linter.unusedVariables false
set_option linter.unusedSimpArgs false
open Go.RowKit Go.Proofs.YtjaiienbbmfomaaW.PrintWords Go.Proofs.YtjaiienbbmfomaaW.PrintLast Go.Proofs.YtjaiienbbmfomaaW.PrintMore Go.Proofs.Ytjaiienbbmfomaa.Px Go.Proofs.Ytjaiienbbmfomaa.Q
/-- A game lies in a block. -/
def GameIn (w : World) (g : Nat) (n : Int) (T : Int → Bool) : Prop := w.heap[g]? = some (.cells (#[.int .i64 n] ++ tabA T) 103 (0, 0))
theorem GameIn.nails {w : World} {g : Nat} {n : Int} {T : Int → Bool} (h : GameIn w g n T) : w.cell? ⟨g, 0, none⟩ = some (.int .i64 n) := by
  refine (blk_cell h 0).trans ?_
  rw [Array.getElem?_append_left (by simp)]
  rfl
theorem GameIn.falls {w : World} {g : Nat} {n : Int} {T : Int → Bool} (h : GameIn w g n T) (i : Nat) (hi : i < 64) : w.cell? ⟨g, 1 + i, none⟩ = some (.bool (T (i : Nat))) := by
  refine (blk_cell h (1 + i)).trans ?_
  rw [Array.getElem?_append_right (by simp)]
  simpa using tabA_at T i hi
theorem GameIn.below {w w1 : World} {g : Nat} {n : Int} {T : Int → Bool} (h : GameIn w g n T) (hb : Below w.heap.size w w1) : GameIn w1 g n T := blk_below h hb
theorem allI_eq {n : Int} (h1 : 1 ≤ n) (h2 : n ≤ 6) : allI n = wrap64 (wrap64 (2 ^ n.toNat) - 1) := by
  rcases nail_cases h1 h2 with rfl | rfl | rfl | rfl | rfl | rfl <;> decide +kernel
set_option maxHeartbeats 4000000 in
set_option maxRecDepth 100000 in
theorem all_calls (g : Nat) (n : Int) (T : Int → Bool) (w : World) (hg : GameIn w g n T) (h1 : 1 ≤ n) (h2 : n ≤ 6) :
    Calls Try.prog 90 #[.pointer (some ⟨g, 0, none⟩)] w fun e w' => e = .returned (.int .i64 (allI n)) ∧ w' = w := by
  have c0 := hg.nails
  have k1 : (0 ≤ n) = True := eq_true (by omega)
  obtain ⟨S, hS⟩ : ∃ S, S = allI n := ⟨_, rfl⟩
  rw [← hS]
  unfold allI at hS
  have HS := Aside0.mk hS
  clear hS
  go_enter Try.func90, Try.ntmps90
  go_wp2
  go_ret
  rw [HS.out, show wrap64 (shl .i64 1 n - 1) = allI n from rfl, allI_eq h1 h2]
  exact ⟨rfl, rfl⟩
set_option maxHeartbeats 4000000 in
set_option maxRecDepth 100000 in
theorem in_calls (g : Nat) (n set : Int) (T : Int → Bool) (w : World) (hg : GameIn w g n T) (h1 : 1 ≤ n) (h2 : n ≤ 6) :
    Calls Try.prog 135 #[.pointer (some ⟨g, 0, none⟩), .int .i64 set] w fun e w' => ∃ v, e = .returned v ∧ Kd.R (Kd.int .i64) 3 w' w.heap.size (fun _ => True) v (inL n set) ∧ Below w.heap.size w w' := by
  have HG := Aside0.mk hg
  have HB := Aside0.mk (Below.refl w.heap.size w)
  clear hg
  go_enter Try.func135, Try.ntmps135
  go_wp2_with (first | ((with_reducible refine gate_dst (N := 7) rfl ?_); refine Kd.R_lit (Kd.int .i64) _ 3 ?hg (N := 7) ?hd (xs := ([] : List Int)) (inner := []) (ok := fun _ => True) (okp := fun _ => True) ?hr ?hp (fun _ hk => hk) trivial (Below.refl _ _) (Nat.le_refl _) (by simp) ?_; (case hd => rfl); (case hg => rfl); (case hr => first | (go_simp; done) | (go_simp; rfl)); (case hp => exact (Reps.none _ _)); intro v0 w3 ho4 hb hg_ hnew_; clear hg_ hnew_; have HO := Aside0.mk (Kd.R_lower ho4 (below_size HB.out)); have HB1 := Aside0.mk (below_step HB.out hb); clear hb ho4))
  go_loopg [5, 6] 6 (fun gg v5 v6 w' => ∃ (j : Int), v6 = .int .i64 j ∧ 1 ≤ j ∧ j ≤ n + 1 ∧ (n + 1 - j).toNat ≤ gg ∧ Aside0 (Kd.R (Kd.int .i64) 3 w' w.heap.size (fun _ => True) v5 (inL (j - 1) set)) ∧ Aside0 (Below w.heap.size w w'))
  case atStart => exact ⟨1, rfl, by omega, by omega, by omega, ⟨by rw [show (1 : Int) - 1 = 0 from rfl, inL_zero]; exact HO.out⟩, ⟨HB1.out⟩⟩
  case round =>
    obtain ⟨j, rfl, hj1, hj2, hgg, HR, HBw⟩ := hrel
    have c0 := (HG.out.below HBw.out).nails
    by_cases hlt : j ≤ n
    · have hltb : decide (j ≤ n) = true := decide_eq_true hlt
      have hn := Aside0.mk (nb_f hj1 (by omega))
      have hst := Aside0.mk (inL_step set hj1 (by omega))
      have hle := Aside0.mk (@inL_le (j - 1) set)
      cases hq : freeB set j with
      | false =>
        have hq2 : (Go.bits .and .i64 set (nb j) == 0) = false := hq
        have HQ := Aside0.mk hq
        clear hq
        go_wp2_with (first | (go_at_call 118; refine (impl_nailBit.calls j (nb j) _ hn.out).mono ?_; rintro e w1 ⟨rfl, hb⟩; have HB2 := Aside0.mk (below_step HBw.out hb); have HR2 := Aside0.mk (Kd.R_below HR.out hb)))
        go_roundg (n + 1 - (j + 1)).toNat
        case measure => omega
        case rel => exact ⟨j + 1, rfl, by omega, by omega, Nat.le_refl _, ⟨by rw [show j + 1 - 1 = j by omega, hst.out, HQ.out]; simpa using HR2.out⟩, ⟨HB2.out⟩⟩
      | true =>
        have hq2 : (Go.bits .and .i64 set (nb j) == 0) = true := hq
        have HQ := Aside0.mk hq
        clear hq
        go_wp2_with (first | (go_at_call 118; refine (impl_nailBit.calls j (nb j) _ hn.out).mono ?_; rintro e w1 ⟨rfl, hb⟩; have HB2 := Aside0.mk (below_step HBw.out hb); have HR2 := Aside0.mk (Kd.R_below HR.out hb)) | ((with_reducible refine gate_builtin (b := .append) (xs := #[.tmp 21, .tmp 23]) rfl ?_); at_builtin; refine Kd.R_append (Kd.int .i64) (w0 := w) w.heap.size rfl (.tmp 21) (.tmp 23) 22 3 (.int .i64 0) 8 rfl Try.underlying22 info3 rfl (by decide) (by omega) u5 (inL (j - 1) set) j [.int .i64 j] (fun _ => True) (fun _ => False) rfl rfl ?aP (fun _ hk => hk.elim) ?aF ?aO ?aB ?aS ?aL ?_; (case aP => exact rfl); (case aB => exact (by repeat (first | (with_reducible first | exact HB2.out | apply below_alloc | apply pw_below_drewN | apply below_drew1) | exact HB2.out))); (case aF => exact (fun _ _ => trivial)); (case aO => exact (by (with_reducible repeat (first | apply Kd.R_alloc | apply Kd.R_drewN | apply Kd.R_drew)); exact HR2.out)); (case aS => exact (below_size (by repeat (first | (with_reducible first | exact HB2.out | apply below_alloc | apply pw_below_drewN | apply below_drew1) | exact HB2.out)))); (case aL => have := hle.out; omega); intro v661 w9 ho hb2 hg9 hat; have HO9 := Aside0.mk ho; have HB9 := Aside0.mk hb2; clear ho hb2 hg9 hat))
        go_roundg (n + 1 - (j + 1)).toNat
        case measure => omega
        case rel => exact ⟨j + 1, rfl, by omega, by omega, Nat.le_refl _, ⟨by rw [show j + 1 - 1 = j by omega, hst.out, HQ.out]; exact HO9.out⟩, ⟨HB9.out⟩⟩
    · have hltb : decide (j ≤ n) = false := decide_eq_false hlt
      go_wp2
      go_ret
      have : j - 1 = n := by omega
      rw [this] at HR
      exact ⟨_, rfl, HR.out, HBw.out⟩
theorem built_game (n : Int) (T : Int → Bool) : Try.prog.built 103 [(0, .int .i64 n), (1, .agg (tabA T))] = some (#[.int .i64 n] ++ tabA T) := by kernel_rfl
theorem wpList_built {P : Program} {ops : Array Oper} {rest : List Oper} {o : Oper} {a : Act} {w : World} {Q : Exit → Act → World → Prop} (hg : o.guard = none) (t : TypeId) (parts : Array (Nat × Operand)) (ho : o.op = .build t parts) (cs : Array Value)
    (hb0 : P.built t (parts.toList.map fun (i, x) => (i, a.eval x)) = some cs) (h : wpList P ops Q rest (a.put o.dst (.agg cs)) w) : wpList P ops Q (o :: rest) a w :=
  have hb : P.built t (parts.map fun (i, x) => (i, a.eval x)).toList = some cs := by rw [Array.toList_map]; exact hb0
  wpList_build hg t parts ho (by rw [hb]; rfl) (by rw [hb]; exact h)
theorem isNail_f (n : Int) : impl_isNail.f n = some (decide (1 ≤ n ∧ n ≤ 6)) := by
  unfold impl_isNail.f
  by_cases h : n ≥ 1
  · rw [if_pos h]
    by_cases h2 : n ≤ 6 <;> simp [h2, show (1 : Int) ≤ n from h]
  · rw [if_neg h]
    have h' : ¬ (1 : Int) ≤ n := h
    simp [h']
set_option maxHeartbeats 4000000 in
set_option maxRecDepth 100000 in
theorem gameOf_calls (A0 : Option Addr) (c0 : Nat) (l0 : List Int) (n : Int) (w : World) (hr0 : Kd.C (Kd.int .i64) w A0 l0.length l0) (hc0 : l0.length ≤ c0) (hw : wordB l0 = true) (h1 : 1 ≤ n) (h2 : n ≤ 6) :
    Calls Try.prog 125 #[.slice A0 l0.length c0, .int .i64 n] w fun e w' => ∃ g, e = .returned (.tuple #[.pointer (some ⟨g, 0, none⟩), .bool (fallT l0 (allI n))]) ∧ Aside0 (GameIn w' g n (fallT l0)) ∧ Below w.heap.size w w' := by
  have HR0 := Aside0.mk hr0
  have HW := Aside0.mk ((isWord_f l0).trans (congrArg some hw))
  have HN := Aside0.mk ((isNail_f n).trans (congrArg some (decide_eq_true ⟨h1, h2⟩)))
  have ha := allI_le h1 h2
  have HT : Aside0 (∀ i : Nat, i < 64 → impl_falls.f (l0.length + 1) l0 (i : Nat) = some (fallT l0 (i : Nat))) := ⟨fun i hi => falls_f hw (decide_eq_true (by omega)) _ (by omega)⟩
  obtain ⟨m, hm⟩ := Int.eq_ofNat_of_zero_le (show 0 ≤ allI n by omega)
  have HM := Aside0.mk hm
  have k1 : (0 ≤ (m : Int)) = True := eq_true (by omega)
  have k2 : ((m : Int) < 64) = True := eq_true (by omega)
  have hm63 : m ≤ 63 := by omega
  rw [hm]
  clear hr0 hw hm
  obtain ⟨TA, hTA⟩ : ∃ TA, TA = tabA (fallT l0) := ⟨_, rfl⟩
  obtain ⟨GA, hGA⟩ : ∃ GA, GA = #[.int .i64 n] ++ tabA (fallT l0) := ⟨_, rfl⟩
  have hbuilt := built_game n (fallT l0)
  have HF := fallTable_calls (l0.length + 1) A0 c0 l0 (fallT l0)
  rw [← hGA, ← hTA] at hbuilt
  simp only [← hTA] at HF
  have HBU := Aside0.mk hbuilt
  have HFF := Aside0.mk HF
  have hgi : Aside0 (∀ W : World, GameIn (W.alloc (.cells GA 103)) W.heap.size n (fallT l0)) := ⟨fun W => by unfold GameIn; rw [← hGA]; exact blk_new W _⟩
  clear hTA hGA hbuilt HF
  go_enter Try.func125, Try.ntmps125
  go_wp2_with (first
    | (go_at_call 70; refine (impl_isWord.calls A0 c0 l0 true _ HR0.out hc0 HW.out).mono ?_; rintro e w1 ⟨rfl, ⟨nd1, rfl⟩⟩)
    | (go_at_call 121; refine (impl_isNail.calls n true _ HN.out).mono ?_; rintro e w2 ⟨rfl, ⟨nd, rfl⟩⟩)
    | ((with_reducible refine gate_callee (f := 154) rfl ?_); refine goesL_ (some 17) rfl rfl Try.func154 (by kernel_rfl) rfl #[.slice A0 l0.length c0] rfl (by (try simp only [List.map_toArray, List.map_cons, List.map_nil]); first | done | rfl) ?_; go_loud (refine (HFF.out _ (Kd.C_drewN HR0.out _) hc0 HT.out).mono ?_; rintro e w3 ⟨rfl, hb⟩; refine ⟨_, rfl, ?_⟩; have HB3 := Aside0.mk (below_step (pw_below_drewN (Below.refl _ _) _) hb); clear hb; refine wpList_built rfl 103 _ rfl GA HBU.out ?_)))
  have hg4 := hgi.out w3
  have hb4 : Below w.heap.size w (w3.alloc (.cells GA 103)) := below_alloc HB3.out _
  generalize w3.alloc (.cells GA 103) = w4 at hg4 hb4 ⊢
  generalize w3.heap.size = g at hg4 ⊢
  have HG4 := Aside0.mk hg4
  have HB4 := Aside0.mk hb4
  clear hg4 hb4
  have HALL : Aside0 (∀ k, Calls Try.prog 90 #[.pointer (some ⟨g, 0, none⟩)] (w4.drewN k) fun e w' => e = .returned (.int .i64 (m : Int)) ∧ w' = w4.drewN k) := ⟨fun k => by rw [← HM.out]; exact all_calls g n (fallT l0) (w4.drewN k) HG4.out h1 h2⟩
  have c1 := HG4.out.falls m (by omega)
  go_quiet (first | (go_at_call 90; refine Calls.quiet_of_same (HALL.out _)))
  go_wp2
  go_ret2
  exact ⟨g, rfl, ⟨HG4.out⟩, by repeat (first | exact HB4.out | apply below_drew1 | apply pw_below_drewN)⟩
set_option maxHeartbeats 4000000 in
set_option maxRecDepth 100000 in
theorem gameOf_no (A0 : Option Addr) (c0 : Nat) (l0 : List Int) (n : Int) (w : World) (hr0 : Kd.C (Kd.int .i64) w A0 l0.length l0) (hc0 : l0.length ≤ c0) (hn : (wordB l0 && decide (1 ≤ n ∧ n ≤ 6)) = false) :
    Calls Try.prog 125 #[.slice A0 l0.length c0, .int .i64 n] w fun e w' => e = .returned (.tuple #[.pointer none, .bool false]) ∧ Below w.heap.size w w' := by
  have HR0 := Aside0.mk hr0
  have HW := Aside0.mk (isWord_f l0)
  have HN := Aside0.mk (isNail_f n)
  clear hr0
  cases hw : wordB l0 with
  | false =>
    rw [hw] at HW
    clear hn hw
    go_enter Try.func125, Try.ntmps125
    go_wp2_with (first | (go_at_call 70; refine (impl_isWord.calls A0 c0 l0 false _ HR0.out hc0 HW.out).mono ?_; rintro e w1 ⟨rfl, ⟨nd1, rfl⟩⟩))
    go_ret2
    exact ⟨rfl, pw_below_drewN (Below.refl _ _) _⟩
  | true =>
    rw [hw, Bool.true_and] at hn
    rw [hw] at HW
    rw [hn] at HN
    clear hn hw
    go_enter Try.func125, Try.ntmps125
    go_wp2_with (first | (go_at_call 70; refine (impl_isWord.calls A0 c0 l0 true _ HR0.out hc0 HW.out).mono ?_; rintro e w1 ⟨rfl, ⟨nd1, rfl⟩⟩) | (go_at_call 121; refine (impl_isNail.calls n false _ HN.out).mono ?_; rintro e w2 ⟨rfl, ⟨nd, rfl⟩⟩))
    go_ret2
    exact ⟨rfl, by repeat (first | exact Below.refl _ _ | apply pw_below_drewN)⟩
set_option maxHeartbeats 4000000 in
set_option maxRecDepth 100000 in
theorem gameAt_calls (A0 : Option Addr) (c0 : Nat) (l0 : List Int) (n set : Int) (w : World) (hr0 : Kd.C (Kd.int .i64) w A0 l0.length l0) (hc0 : l0.length ≤ c0) :
    Calls Try.prog 85 #[.slice A0 l0.length c0, .int .i64 n, .int .i64 set] w fun e w' => ∃ p, e = .returned (.tuple #[p, .bool (gameB l0 n set)]) ∧ Aside0 (gameB l0 n set = true → ∃ g, p = .pointer (some ⟨g, 0, none⟩) ∧ GameIn w' g n (fallT l0)) ∧ Below w.heap.size w w' := by
  have HR0 := Aside0.mk hr0
  clear hr0
  cases hn : wordB l0 && decide (1 ≤ n ∧ n ≤ 6) with
  | false =>
    have hgb : gameB l0 n set = false := by unfold gameB; rw [hn]; rfl
    rw [hgb]
    have HN := Aside0.mk hn
    clear hn hgb
    go_enter Try.func85, Try.ntmps85
    go_wp2_with (first | (go_at_call 125; refine (gameOf_no A0 c0 l0 n _ HR0.out hc0 HN.out).mono ?_; rintro e w1 ⟨rfl, hb⟩))
    go_quiet (fail)
    all_goals (go_wp2; go_ret2; exact ⟨_, rfl, ⟨fun h => Bool.noConfusion h⟩, by repeat (first | exact hb | apply below_drew1 | apply pw_below_drewN)⟩)
  | true =>
    rw [Bool.and_eq_true] at hn
    obtain ⟨hw, hn⟩ := hn
    have hgb : gameB l0 n set = (posB n set && (!fallT l0 set && fallT l0 (allI n))) := by unfold gameB; rw [hw, hn]; rfl
    have hn := of_decide_eq_true hn
    obtain ⟨h1, h2⟩ := hn
    have ha := allI_le h1 h2
    have HW := Aside0.mk hw
    clear hw
    cases hall : fallT l0 (allI n) with
    | false =>
      rw [hall, Bool.and_false, Bool.and_false] at hgb
      rw [hgb]
      have HA := Aside0.mk hall
      clear hall hgb
      go_enter Try.func85, Try.ntmps85
      go_wp2_with (first | (go_at_call 125; refine (gameOf_calls A0 c0 l0 n _ HR0.out hc0 HW.out h1 h2).mono ?_; rw [HA.out]; rintro e w1 ⟨g, rfl, HG, hb⟩; have HB1 := Aside0.mk hb; clear hb))
      go_quiet (fail)
      all_goals (go_wp2; go_ret2; exact ⟨_, rfl, ⟨fun h => Bool.noConfusion h⟩, by repeat (first | exact HB1.out | apply below_drew1 | apply pw_below_drewN)⟩)
    | true =>
      rw [hall, Bool.and_true] at hgb
      have HA := Aside0.mk hall
      clear hall
      by_cases hs0 : 0 ≤ set
      · have hs0b : decide (set ≥ 0) = true := decide_eq_true hs0
        by_cases hs1 : set ≤ allI n
        · have hs1b : decide (set ≤ allI n) = true := decide_eq_true hs1
          obtain ⟨s, rfl⟩ := Int.eq_ofNat_of_zero_le hs0
          have hp : posB n (s : Int) = true := decide_eq_true ⟨hs0, hs1⟩
          rw [hp, Bool.true_and] at hgb
          rw [hgb]
          have k1 : (0 ≤ (s : Int)) = True := eq_true hs0
          have k2 : ((s : Int) < 64) = True := eq_true (by omega)
          have hs63 : s < 64 := by omega
          have HGB := Aside0.mk hgb
          clear hgb hp
          cases hf : fallT l0 (s : Int) with
          | false =>
            have HF := Aside0.mk hf
            clear hf
            go_enter Try.func85, Try.ntmps85
            go_wp2_with (first | (go_at_call 125; refine (gameOf_calls A0 c0 l0 n _ HR0.out hc0 HW.out h1 h2).mono ?_; rw [HA.out]; rintro e w1 ⟨g, rfl, HG, hb⟩; have HB1 := Aside0.mk hb; clear hb))
            have c1 := HG.out.falls s hs63
            rw [HF.out] at c1
            have HALL : Aside0 (∀ k, Calls Try.prog 90 #[.pointer (some ⟨g, 0, none⟩)] (w1.drewN k) fun e w' => e = .returned (.int .i64 (allI n)) ∧ w' = w1.drewN k) := ⟨fun k => all_calls g n (fallT l0) (w1.drewN k) HG.out h1 h2⟩
            go_quiet (first | (go_at_call 90; refine Calls.quiet_of_same (HALL.out _)))
            all_goals (go_wp2; go_ret2; exact ⟨_, rfl, ⟨fun _ => ⟨g, rfl, HG.out⟩⟩, by repeat (first | exact HB1.out | apply below_drew1 | apply pw_below_drewN)⟩)
          | true =>
            have HF := Aside0.mk hf
            clear hf
            go_enter Try.func85, Try.ntmps85
            go_wp2_with (first | (go_at_call 125; refine (gameOf_calls A0 c0 l0 n _ HR0.out hc0 HW.out h1 h2).mono ?_; rw [HA.out]; rintro e w1 ⟨g, rfl, HG, hb⟩; have HB1 := Aside0.mk hb; clear hb))
            have c1 := HG.out.falls s hs63
            rw [HF.out] at c1
            have HALL : Aside0 (∀ k, Calls Try.prog 90 #[.pointer (some ⟨g, 0, none⟩)] (w1.drewN k) fun e w' => e = .returned (.int .i64 (allI n)) ∧ w' = w1.drewN k) := ⟨fun k => all_calls g n (fallT l0) (w1.drewN k) HG.out h1 h2⟩
            go_quiet (first | (go_at_call 90; refine Calls.quiet_of_same (HALL.out _)))
            all_goals (go_wp2; go_ret2; exact ⟨_, rfl, ⟨fun h => Bool.noConfusion h⟩, by repeat (first | exact HB1.out | apply below_drew1 | apply pw_below_drewN)⟩)
        · have hs1b : decide (set ≤ allI n) = false := decide_eq_false hs1
          have hp : posB n set = false := decide_eq_false (by omega)
          rw [hp, Bool.false_and] at hgb
          rw [hgb]
          clear hgb hp
          go_enter Try.func85, Try.ntmps85
          go_wp2_with (first | (go_at_call 125; refine (gameOf_calls A0 c0 l0 n _ HR0.out hc0 HW.out h1 h2).mono ?_; rw [HA.out]; rintro e w1 ⟨g, rfl, HG, hb⟩; have HB1 := Aside0.mk hb; clear hb))
          have HALL : Aside0 (∀ k, Calls Try.prog 90 #[.pointer (some ⟨g, 0, none⟩)] (w1.drewN k) fun e w' => e = .returned (.int .i64 (allI n)) ∧ w' = w1.drewN k) := ⟨fun k => all_calls g n (fallT l0) (w1.drewN k) HG.out h1 h2⟩
          go_quiet (first | (go_at_call 90; refine Calls.quiet_of_same (HALL.out _)))
          all_goals (go_wp2; go_ret2; exact ⟨_, rfl, ⟨fun h => Bool.noConfusion h⟩, by repeat (first | exact HB1.out | apply below_drew1 | apply pw_below_drewN)⟩)
      · have hs0b : decide (set ≥ 0) = false := decide_eq_false hs0
        have hp : posB n set = false := decide_eq_false (by omega)
        rw [hp, Bool.false_and] at hgb
        rw [hgb]
        clear hgb hp
        go_enter Try.func85, Try.ntmps85
        go_wp2_with (first | (go_at_call 125; refine (gameOf_calls A0 c0 l0 n _ HR0.out hc0 HW.out h1 h2).mono ?_; rw [HA.out]; rintro e w1 ⟨g, rfl, HG, hb⟩; have HB1 := Aside0.mk hb; clear hb))
        go_quiet (fail)
        all_goals (go_wp2; go_ret2; exact ⟨_, rfl, ⟨fun h => Bool.noConfusion h⟩, by repeat (first | exact HB1.out | apply below_drew1 | apply pw_below_drewN)⟩)
end Go.Proofs.Ytjaiienbbmfomaa.Giv
