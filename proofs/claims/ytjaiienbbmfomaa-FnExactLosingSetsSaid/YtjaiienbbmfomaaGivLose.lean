import Derived.Test.YtjaiienbbmfomaaGivDrop
namespace Go.Proofs.Ytjaiienbbmfomaa.Giv
set_option linter.unusedVariables false
set_option linter.unusedSimpArgs false
open Go.RowKit Go.Proofs.YtjaiienbbmfomaaW.PrintWords Go.Proofs.YtjaiienbbmfomaaW.PrintLast Go.Proofs.YtjaiienbbmfomaaW.PrintMore Go.Proofs.Ytjaiienbbmfomaa.Px Go.Proofs.Ytjaiienbbmfomaa.Q
/-- The moves that win one of both games, and the positions at which the player who is to move loses. -/
def movesL (drop : Bool) (T : Int → Bool) (n set : Int) : List Int := if drop = true then dropsL 6 T n set else keepsL 6 T n set
def loseB (drop : Bool) (T : Int → Bool) (n s : Int) : Bool := !T s && (movesL drop T n s).isEmpty
def setsL (m : Nat) : List Int := (List.range m).map fun (i : Nat) => (i : Int)
theorem setsL_step (m : Nat) (p : Int → Bool) : (setsL (m + 1)).filter p = (setsL m).filter p ++ (if p (m : Int) = true then [(m : Int)] else []) := by
  unfold setsL
  rw [List.range_succ, List.map_append, List.filter_append]
  congr 1
  by_cases h : p (m : Int) = true
  · rw [if_pos h]; simp [h]
  · rw [if_neg h]; simp [h]
theorem setsL_len (m : Nat) (p : Int → Bool) : ((setsL m).filter p).length ≤ m := by
  have h1 := List.length_filter_le p (setsL m)
  have h2 : (setsL m).length = m := by unfold setsL; simp
  omega
def loseP (w : List Int) (n : Int) (drop : Bool) : List Int × Bool := if gameB w n 0 = true then ((setsL ((allI n).toNat + 1)).filter (loseB drop (fallT w) n), true) else ([], false)
def impl_LosingSets.f (k : Nat) (l0 : List Int) (a1 : Int) (a2 : Bool) : Option (List Int × Bool) := if 2 * l0.length + 10 < k ∧ l0.length ≤ 1048576 then some (loseP l0 a1 a2) else none
theorem impl_LosingSets.mono : ∀ l0 a1 a2 k, LeO (impl_LosingSets.f k l0 a1 a2) (impl_LosingSets.f (k + 1) l0 a1 a2) := by
  intro l0 a1 a2 k r h
  unfold impl_LosingSets.f at h ⊢
  split at h
  · rename_i hc
    rw [if_pos (by omega)]
    exact h
  · cases h
theorem moves_calls (drop : Bool) (g : Nat) (n set : Int) (T : Int → Bool) (w : World) (hg : GameIn w g n T) (h1 : 1 ≤ n) (h2 : n ≤ 6) (hp : posB n set = true) :
    Calls Try.prog (if drop = true then 91 else 86) #[.pointer (some ⟨g, 0, none⟩), .int .i64 set] w fun e w' => ∃ v, e = .returned v ∧ Kd.R (Kd.int .i64) 3 w' w.heap.size (fun _ => True) v (movesL drop T n set) ∧ Below w.heap.size w w' := by
  unfold movesL
  cases drop with
  | true => exact drops_calls 6 set g n T w hg h1 h2 hp inL_le
  | false => exact keeps_calls 6 set g n T w hg h1 h2 hp inL_le
set_option maxHeartbeats 4000000 in
set_option maxRecDepth 100000 in
theorem impl_LosingSets.calls (k : Nat) (A0 : Option Addr) (c0 : Nat) (l0 : List Int) (a1 : Int) (a2 : Bool) (r1 : List Int) (r2 : Bool) (w : World) (hr0 : Kd.C (Kd.int .i64) w A0 l0.length l0) (hc0 : l0.length ≤ c0) (h : impl_LosingSets.f k l0 a1 a2 = some (r1, r2)) :
    Calls Try.prog 49 #[.slice A0 l0.length c0, .int .i64 a1, .bool a2] w fun e w' => ∃ v0_ : Value, e = .returned (.tuple #[v0_, .bool r2]) ∧ Kd.R (Kd.int .i64) 3 w' w.heap.size (fun _ => True) v0_ r1 ∧ Below w.heap.size w w' := by
  have HGA := Aside0.mk (gameAt_calls A0 c0 l0 a1 0 w hr0 hc0)
  unfold impl_LosingSets.f at h
  split at h
  · have h := Option.some.inj h
    unfold loseP at h
    cases hg : gameB l0 a1 0 with
    | false =>
      rw [hg] at h HGA
      simp only [Bool.false_eq_true, if_false, Prod.mk.injEq] at h
      obtain ⟨rfl, rfl⟩ := h
      clear hg hr0
      go_enter Try.func49, Try.ntmps49
      go_wp2_with (first | (go_at_call 85; refine HGA.out.mono ?_; rintro e w1 ⟨p, rfl, HP, hb⟩))
      go_ret2
      exact ⟨_, rfl, Kd.R_nil _ _ _ _ _, hb⟩
    | true =>
      rw [hg] at h HGA
      simp only [if_true, Prod.mk.injEq] at h
      obtain ⟨hR, rfl⟩ := h
      obtain ⟨hw, h1, h2, hp⟩ := gameB_parts hg
      have ha := allI_le h1 h2
      have HMV : Aside0 (∀ (s : Nat) (g : Nat) (W : World), GameIn W g a1 (fallT l0) → (s : Int) ≤ allI a1 → Calls Try.prog (if a2 = true then 91 else 86) #[.pointer (some ⟨g, 0, none⟩), .int .i64 (s : Int)] W fun e w' => ∃ v, e = .returned v ∧ Kd.R (Kd.int .i64) 3 w' W.heap.size (fun _ => True) v (movesL a2 (fallT l0) a1 (s : Int)) ∧ Below W.heap.size W w') := ⟨fun s g W hgi hs => moves_calls a2 g a1 (s : Int) (fallT l0) W hgi h1 h2 (decide_eq_true ⟨by omega, hs⟩)⟩
      have HAL : Aside0 (∀ (g : Nat) (W : World), GameIn W g a1 (fallT l0) → Calls Try.prog 90 #[.pointer (some ⟨g, 0, none⟩)] W fun e w' => e = .returned (.int .i64 (allI a1)) ∧ w' = W) := ⟨fun g W hgi => all_calls g a1 (fallT l0) W hgi h1 h2⟩
      obtain ⟨m, hm⟩ := Int.eq_ofNat_of_zero_le (show 0 ≤ allI a1 by omega)
      rw [hm, Int.toNat_natCast] at hR
      rw [hm] at HMV HAL ha
      obtain ⟨q, hq⟩ : ∃ q : Int → Bool, q = loseB a2 (fallT l0) a1 := ⟨_, rfl⟩
      rw [← hq] at hR
      have HQ : Aside0 (∀ s : Nat, q (s : Int) = (!fallT l0 (s : Int) && (movesL a2 (fallT l0) a1 (s : Int)).isEmpty)) := ⟨fun s => by rw [hq]; rfl⟩
      have HR := Aside0.mk hR
      have km : wrap64 ((m : Int) + 1) = ((m + 1 : Nat) : Int) := by rw [wrap_id _ (by omega) (by omega)]; omega
      clear hg hr0 hw hp hR hq hm
      cases a2 with
      | true =>
          go_enter Try.func49, Try.ntmps49
          go_wp2_with (first | (go_at_call 85; refine HGA.out.mono ?_; rintro e w1 ⟨p, rfl, HP, hb⟩; obtain ⟨g, rfl, hgi⟩ := HP.out rfl; have HB1 := Aside0.mk hb; have HGI := Aside0.mk hgi; clear hb hgi) | ((with_reducible refine gate_dst (N := 21) rfl ?_); refine Kd.R_lit (Kd.int .i64) _ 3 ?hg (N := 21) ?hd (xs := ([] : List Int)) (inner := []) (ok := fun _ => True) (okp := fun _ => True) ?hr ?hp (fun _ hk => hk) trivial (Below.refl _ _) (Nat.le_refl _) (by simp) ?_; (case hd => rfl); (case hg => rfl); (case hr => first | (go_simp; done) | (go_simp; rfl)); (case hp => exact (Reps.none _ _)); intro v0 w3 ho4 hb3 hg_ hnew_; clear hg_ hnew_; have HO := Aside0.mk ho4; have HB3 := Aside0.mk hb3; clear ho4 hb3) | (go_at_call 90; refine (HAL.out g _ (HGI.out.below HB3.out)).mono ?_; rintro e w4 ⟨rfl, rfl⟩))
          have hm63 : m ≤ 63 := by omega
          clear km
          go_loopg [10, 25] (m + 1) (fun gg v10 v25 w' => ∃ i : Nat, v25 = .int .i64 (i : Nat) ∧ i ≤ m + 1 ∧ m + 1 - i ≤ gg ∧ Aside0 (Kd.R (Kd.int .i64) 3 w' w1.heap.size (fun _ => True) v10 ((setsL i).filter q)) ∧ Aside0 (Below w1.heap.size w1 w'))
          case atStart => exact ⟨0, rfl, by omega, by omega, ⟨HO.out⟩, ⟨HB3.out⟩⟩
          case round =>
            obtain ⟨i, rfl, hi, hgg, HRr, HBr⟩ := hrel
            by_cases hlt : i < m + 1
            · have hltb : decide ((i : Int) < (m : Int) + 1) = true := decide_eq_true (by omega)
              have k1 : (0 ≤ (i : Int)) = True := eq_true (by omega)
              have k2 : ((i : Int) < 64) = True := eq_true (by omega)
              have c1 := (HGI.out.below HBr.out).falls i (by omega)
              have HQi := Aside0.mk (HQ.out i)
              cases hT : fallT l0 (i : Int) with
              | true =>
                rw [hT] at c1
                have HT2 := Aside0.mk hT
                clear hT
                go_wp2
                go_roundg (m + 1 - (i + 1))
                case measure => omega
                case rel => exact ⟨i + 1, by go_num, by omega, Nat.le_refl _, ⟨by rw [setsL_step, HQi.out, HT2.out]; simpa using HRr.out⟩, ⟨HBr.out⟩⟩
              | false =>
                rw [hT] at c1
                have HT2 := Aside0.mk hT
                clear hT
                cases he : (movesL true (fallT l0) a1 (i : Int)).isEmpty with
                | false =>
                  have hz : (((movesL true (fallT l0) a1 (i : Int)).length : Int) == 0) = false := by rw [isEmpty_len]; exact he
                  have HE := Aside0.mk he
                  clear he
                  go_wp2_with (first | (go_at_call 91; refine (show Calls _ 91 _ _ _ from HMV.out i g _ (HGI.out.below HBr.out) (by omega)).mono ?_; rintro e w5 ⟨v5, rfl, ho5, hb5⟩; obtain ⟨A5, c5, rfl, hc5, hC5⟩ := Kd.R_reads ho5; have HR5 := Aside0.mk (Kd.R_below HRr.out hb5); have HB5 := Aside0.mk (below_step HBr.out hb5); clear ho5 hb5 hC5))
                  go_roundg (m + 1 - (i + 1))
                  case measure => omega
                  case rel => exact ⟨i + 1, by go_num, by omega, Nat.le_refl _, ⟨by rw [setsL_step, HQi.out, HT2.out, HE.out]; simpa using HR5.out⟩, ⟨HB5.out⟩⟩
                | true =>
                  have hz : (((movesL true (fallT l0) a1 (i : Int)).length : Int) == 0) = true := by rw [isEmpty_len]; exact he
                  have HE := Aside0.mk he
                  clear he
                  go_wp2_with (first | (go_at_call 91; refine (show Calls _ 91 _ _ _ from HMV.out i g _ (HGI.out.below HBr.out) (by omega)).mono ?_; rintro e w5 ⟨v5, rfl, ho5, hb5⟩; obtain ⟨A5, c5, rfl, hc5, hC5⟩ := Kd.R_reads ho5; have HR5 := Aside0.mk (Kd.R_below HRr.out hb5); have HB5 := Aside0.mk (below_step HBr.out hb5); clear ho5 hb5 hC5) | ((with_reducible refine gate_builtin (b := .append) (xs := #[.tmp 44, .tmp 46]) rfl ?_); at_builtin; refine Kd.R_append (Kd.int .i64) (w0 := w1) w1.heap.size rfl (.tmp 44) (.tmp 46) 22 3 (.int .i64 0) 8 rfl Try.underlying22 info3 rfl (by decide) (by omega) u10 ((setsL i).filter q) (i : Int) [.int .i64 (i : Int)] (fun _ => True) (fun _ => False) rfl rfl ?aP (fun _ hk => hk.elim) ?aF ?aO ?aB ?aS ?aL ?_; (case aP => exact rfl); (case aB => exact HB5.out); (case aF => exact (fun _ _ => trivial)); (case aO => exact HR5.out); (case aS => exact (below_size HB5.out)); (case aL => have h1_ := setsL_len i q; omega); intro v9 w9 ho hb9 hg9 hat; have HR9 := Aside0.mk ho; have HB9 := Aside0.mk hb9; clear ho hb9 hg9 hat))
                  go_roundg (m + 1 - (i + 1))
                  case measure => omega
                  case rel => exact ⟨i + 1, by go_num, by omega, Nat.le_refl _, ⟨by rw [setsL_step, HQi.out, HT2.out, HE.out]; exact HR9.out⟩, ⟨HB9.out⟩⟩
            · have hltb : decide ((i : Int) < (m : Int) + 1) = false := decide_eq_false (by omega)
              have hi2 : i = m + 1 := by omega
              go_wp2
              go_ret2
              rw [hi2, HR.out] at HRr
              exact ⟨_, rfl, Kd.R_lower HRr.out (below_size HB1.out), below_step HB1.out HBr.out⟩
      | false =>
          go_enter Try.func49, Try.ntmps49
          go_wp2_with (first | (go_at_call 85; refine HGA.out.mono ?_; rintro e w1 ⟨p, rfl, HP, hb⟩; obtain ⟨g, rfl, hgi⟩ := HP.out rfl; have HB1 := Aside0.mk hb; have HGI := Aside0.mk hgi; clear hb hgi) | ((with_reducible refine gate_dst (N := 21) rfl ?_); refine Kd.R_lit (Kd.int .i64) _ 3 ?hg (N := 21) ?hd (xs := ([] : List Int)) (inner := []) (ok := fun _ => True) (okp := fun _ => True) ?hr ?hp (fun _ hk => hk) trivial (Below.refl _ _) (Nat.le_refl _) (by simp) ?_; (case hd => rfl); (case hg => rfl); (case hr => first | (go_simp; done) | (go_simp; rfl)); (case hp => exact (Reps.none _ _)); intro v0 w3 ho4 hb3 hg_ hnew_; clear hg_ hnew_; have HO := Aside0.mk ho4; have HB3 := Aside0.mk hb3; clear ho4 hb3) | (go_at_call 90; refine (HAL.out g _ (HGI.out.below HB3.out)).mono ?_; rintro e w4 ⟨rfl, rfl⟩))
          have hm63 : m ≤ 63 := by omega
          clear km
          go_loopg [10, 25] (m + 1) (fun gg v10 v25 w' => ∃ i : Nat, v25 = .int .i64 (i : Nat) ∧ i ≤ m + 1 ∧ m + 1 - i ≤ gg ∧ Aside0 (Kd.R (Kd.int .i64) 3 w' w1.heap.size (fun _ => True) v10 ((setsL i).filter q)) ∧ Aside0 (Below w1.heap.size w1 w'))
          case atStart => exact ⟨0, rfl, by omega, by omega, ⟨HO.out⟩, ⟨HB3.out⟩⟩
          case round =>
            obtain ⟨i, rfl, hi, hgg, HRr, HBr⟩ := hrel
            by_cases hlt : i < m + 1
            · have hltb : decide ((i : Int) < (m : Int) + 1) = true := decide_eq_true (by omega)
              have k1 : (0 ≤ (i : Int)) = True := eq_true (by omega)
              have k2 : ((i : Int) < 64) = True := eq_true (by omega)
              have c1 := (HGI.out.below HBr.out).falls i (by omega)
              have HQi := Aside0.mk (HQ.out i)
              cases hT : fallT l0 (i : Int) with
              | true =>
                rw [hT] at c1
                have HT2 := Aside0.mk hT
                clear hT
                go_wp2
                go_roundg (m + 1 - (i + 1))
                case measure => omega
                case rel => exact ⟨i + 1, by go_num, by omega, Nat.le_refl _, ⟨by rw [setsL_step, HQi.out, HT2.out]; simpa using HRr.out⟩, ⟨HBr.out⟩⟩
              | false =>
                rw [hT] at c1
                have HT2 := Aside0.mk hT
                clear hT
                cases he : (movesL false (fallT l0) a1 (i : Int)).isEmpty with
                | false =>
                  have hz : (((movesL false (fallT l0) a1 (i : Int)).length : Int) == 0) = false := by rw [isEmpty_len]; exact he
                  have HE := Aside0.mk he
                  clear he
                  go_wp2_with (first | (go_at_call 86; refine (show Calls _ 86 _ _ _ from HMV.out i g _ (HGI.out.below HBr.out) (by omega)).mono ?_; rintro e w5 ⟨v5, rfl, ho5, hb5⟩; obtain ⟨A5, c5, rfl, hc5, hC5⟩ := Kd.R_reads ho5; have HR5 := Aside0.mk (Kd.R_below HRr.out hb5); have HB5 := Aside0.mk (below_step HBr.out hb5); clear ho5 hb5 hC5))
                  go_roundg (m + 1 - (i + 1))
                  case measure => omega
                  case rel => exact ⟨i + 1, by go_num, by omega, Nat.le_refl _, ⟨by rw [setsL_step, HQi.out, HT2.out, HE.out]; simpa using HR5.out⟩, ⟨HB5.out⟩⟩
                | true =>
                  have hz : (((movesL false (fallT l0) a1 (i : Int)).length : Int) == 0) = true := by rw [isEmpty_len]; exact he
                  have HE := Aside0.mk he
                  clear he
                  go_wp2_with (first | (go_at_call 86; refine (show Calls _ 86 _ _ _ from HMV.out i g _ (HGI.out.below HBr.out) (by omega)).mono ?_; rintro e w5 ⟨v5, rfl, ho5, hb5⟩; obtain ⟨A5, c5, rfl, hc5, hC5⟩ := Kd.R_reads ho5; have HR5 := Aside0.mk (Kd.R_below HRr.out hb5); have HB5 := Aside0.mk (below_step HBr.out hb5); clear ho5 hb5 hC5) | ((with_reducible refine gate_builtin (b := .append) (xs := #[.tmp 44, .tmp 46]) rfl ?_); at_builtin; refine Kd.R_append (Kd.int .i64) (w0 := w1) w1.heap.size rfl (.tmp 44) (.tmp 46) 22 3 (.int .i64 0) 8 rfl Try.underlying22 info3 rfl (by decide) (by omega) u10 ((setsL i).filter q) (i : Int) [.int .i64 (i : Int)] (fun _ => True) (fun _ => False) rfl rfl ?aP (fun _ hk => hk.elim) ?aF ?aO ?aB ?aS ?aL ?_; (case aP => exact rfl); (case aB => exact HB5.out); (case aF => exact (fun _ _ => trivial)); (case aO => exact HR5.out); (case aS => exact (below_size HB5.out)); (case aL => have h1_ := setsL_len i q; omega); intro v9 w9 ho hb9 hg9 hat; have HR9 := Aside0.mk ho; have HB9 := Aside0.mk hb9; clear ho hb9 hg9 hat))
                  go_roundg (m + 1 - (i + 1))
                  case measure => omega
                  case rel => exact ⟨i + 1, by go_num, by omega, Nat.le_refl _, ⟨by rw [setsL_step, HQi.out, HT2.out, HE.out]; exact HR9.out⟩, ⟨HB9.out⟩⟩
            · have hltb : decide ((i : Int) < (m : Int) + 1) = false := decide_eq_false (by omega)
              have hi2 : i = m + 1 := by omega
              go_wp2
              go_ret2
              rw [hi2, HR.out] at HRr
              exact ⟨_, rfl, Kd.R_lower HRr.out (below_size HB1.out), below_step HB1.out HBr.out⟩
  · cases h
end Go.Proofs.Ytjaiienbbmfomaa.Giv
