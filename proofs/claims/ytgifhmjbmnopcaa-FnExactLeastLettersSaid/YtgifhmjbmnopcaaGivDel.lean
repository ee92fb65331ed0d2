import Derived.Test.YtgifhmjbmnopcaaPx0
import Derived.Shelf.Abstract
import Derived.Lib.SliceRun
namespace Go.Proofs.Ytgifhmjbmnopcaa.Giv
set_option linter.unusedVariables false
set_option linter.unusedSimpArgs false
open Go.RowKit Go.Proofs.YtgifhmjbmnopcaaW.PrintWords Go.Proofs.YtgifhmjbmnopcaaW.PrintLast Go.Proofs.YtgifhmjbmnopcaaW.PrintMore
/-! slices.IndexFunc and slices.DeleteFunc at []int, for whatever function value whose calls at the row's elements lay blocks at most (its world: w0 and what was laid since). -/
/-- What a predicate's function value has to answer. -/
def Asks (g : Nat) (lb : Array Value) (p : Int → Bool) (l : List Int) (w0 : World) : Prop :=
  ∀ (W : World) (x : Int), x ∈ l → Below w0.heap.size w0 W → Calls Try.prog g (#[.int .i64 x] ++ lb) W fun e w' => e = .returned (.bool (p x)) ∧ Below W.heap.size W w'
def IdxP (p : Int → Bool) (l : List Int) (i : Int) : Prop := (i = -1 ∧ ∀ x, x ∈ l → p x = false) ∨ (∃ n : Nat, i = n ∧ n < l.length ∧ p (rd l n) = true ∧ ∀ j : Nat, j < n → p (rd l j) = false)
theorem rd_mem (l : List Int) (i : Int) (h0 : 0 ≤ i) (h1 : i < l.length) : rd l i ∈ l := by
  unfold rd
  rw [List.getD_eq_getElem?_getD, List.getElem?_eq_getElem (by omega)]
  exact List.getElem_mem _
theorem IdxP.none_ {p : Int → Bool} {l : List Int} {i : Int} (h0 : ¬ i < l.length) (h : ∀ j : Nat, (j : Int) < i → p (rd l j) = false) : IdxP p l (-1) := by
  refine .inl ⟨rfl, fun x hx => ?_⟩
  obtain ⟨j, hj, rfl⟩ := List.getElem_of_mem hx
  have := h j (by omega)
  unfold rd at this
  rw [List.getD_eq_getElem?_getD] at this
  simpa [List.getElem?_eq_getElem hj] using this
theorem IdxP.some_ {p : Int → Bool} {l : List Int} {i : Int} (h0 : 0 ≤ i) (h1 : i < l.length) (hi : p (rd l i) = true) (h : ∀ j : Nat, (j : Int) < i → p (rd l j) = false) : IdxP p l i := by
  obtain ⟨n, rfl⟩ := Int.eq_ofNat_of_zero_le h0
  exact .inr ⟨n, rfl, by omega, hi, fun j hj => h j (by omega)⟩
set_option maxHeartbeats 4000000 in
set_option maxRecDepth 100000 in
theorem idxP_calls (g : Nat) (lb : Array Value) (eg : ∀ args w, (callFunc g args).run Try.prog w = .ok (.enter g args) w) (p : Int → Bool) (A0 : Option Addr) (c0 : Nat) (l0 : List Int) (w0 w : World) (hp : Asks g lb p l0 w0) (hb0 : Below w0.heap.size w0 w) (hr0 : Kd.C (Kd.int .i64) w A0 l0.length l0) (hl : l0.length ≤ 9223372036854775807) :
    Calls Try.prog 95 #[.slice A0 l0.length c0, .func (.func g) #[] lb] w fun e w' => ∃ i : Int, e = .returned (.int .i64 i) ∧ Aside0 (IdxP p l0 i) ∧ Below w.heap.size w w' := by
  have HR0 := Aside0.mk hr0
  have HP := Aside0.mk hp
  have HB0 := Aside0.mk hb0
  clear hr0 hp hb0
  go_enter Try.func95, Try.ntmps95
  go_wp2
  go_loopw [8] (fun v w' => ∃ i : Int, v = .int .i64 i ∧ 0 ≤ i ∧ i ≤ l0.length ∧ Aside0 (∀ j : Nat, (j : Int) < i → p (rd l0 j) = false) ∧ Aside0 (Below w.heap.size w w')) (fun v w' => (l0.length - intOf v).toNat)
  case atStart => exact ⟨0, rfl, by omega, by omega, ⟨fun j hj => by omega⟩, ⟨by repeat (first | exact Below.refl _ _ | apply below_drew1 | apply pw_below_drewN)⟩⟩
  case round =>
    obtain ⟨i, rfl, h0, h1, HA, HB⟩ := hrel
    by_cases hlt : i < (l0.length : Int)
    · have hltb : decide (i < (l0.length : Int)) = true := decide_eq_true hlt
      obtain ⟨ad, e1, hx⟩ := Kd.at_int (Kd.C_below HR0.out HB.out) i h0 hlt
      cases e1
      have HM := Aside0.mk (rd_mem l0 i h0 hlt)
      cases hb : p (rd l0 i) with
      | true =>
        have HF := Aside0.mk (IdxP.some_ h0 hlt hb HA.out)
        have HBad := Aside0.mk hb
        clear hb
        go_wp2_with (first | (go_at_fn g; refine (HP.out _ _ HM.out (by repeat (first | exact below_step HB0.out HB.out | apply below_drew1 | apply pw_below_drewN))).mono ?_; rw [HBad.out]; rintro e w' ⟨rfl, hb⟩))
        go_ret
        exact ⟨_, rfl, HF, below_step (by repeat (first | exact HB.out | apply below_drew1 | apply pw_below_drewN)) hb⟩
      | false =>
        have HBad := Aside0.mk hb
        clear hb
        have HA2 : Aside0 (∀ j : Nat, (j : Int) < i + 1 → p (rd l0 j) = false) := ⟨fun j hj => by
          by_cases hji : (j : Int) < i
          · exact HA.out j hji
          · have : (j : Int) = i := by omega
            rw [this]
            exact HBad.out⟩
        go_wp2_with (first | (go_at_fn g; refine (HP.out _ _ HM.out (by repeat (first | exact below_step HB0.out HB.out | apply below_drew1 | apply pw_below_drewN))).mono ?_; rw [HBad.out]; rintro e w' ⟨rfl, hb⟩; have HB2 := Aside0.mk (below_step (by repeat (first | exact HB.out | apply below_drew1 | apply pw_below_drewN)) hb); clear hb))
        go_roundw
        case measure => simp [intOf]; omega
        case rel => exact ⟨i + 1, by go_num, by omega, by omega, HA2, ⟨by repeat (first | exact HB2.out | apply below_drew1 | apply pw_below_drewN)⟩⟩
    · have HF := Aside0.mk (IdxP.none_ hlt HA.out)
      have hltb : decide (i < (l0.length : Int)) = false := decide_eq_false hlt
      go_wp2
      go_ret
      exact ⟨-1, rfl, HF, by repeat (first | exact HB.out | apply below_drew1 | apply pw_below_drewN)⟩
/-- Behind a store or a clearing of cells behind the row's end. -/
theorem own_behind {base e n cap g : Nat} {xs : List Value} : ∀ (vs : List Value) (o : Nat) (w : World), n ≤ o → w.ownsRow base e 1 (.slice (some ⟨g, 0, none⟩) n cap) n xs → (w.setCells g o vs).ownsRow base e 1 (.slice (some ⟨g, 0, none⟩) n cap) n xs
  | [], _, _, _, h => h
  | v :: r, o, w, ho, h => by
    refine own_behind r (o + 1) (w.setCell ⟨g, o, none⟩ v) (by omega) ?_
    obtain ⟨h1, h2⟩ := h
    refine ⟨h1, ?_⟩
    rcases h2 with ⟨h2, _⟩ | ⟨g', cap', cur, he, hb, hg, hn, hm, hs, ht⟩
    · cases h2
    · injection he with e1 _ e3
      injection e1 with e1
      injection e1 with e1
      subst e1; subst e3
      refine .inr ⟨g, cap, cur.setIfInBounds o v, rfl, hb, ?_, hn, hm, by simpa using hs, ?_⟩
      · obtain ⟨hlt, hk⟩ := Array.getElem?_eq_some_iff.1 hg
        show (w.heap.modify g _)[g]? = _
        rw [Array.getElem?_eq_getElem (by rw [Array.size_modify]; exact hlt), Array.getElem_modify_self, hk]
        simp
      · rw [Array.toList_setIfInBounds, List.take_set_of_le (by omega)]
        exact ht
/-- Where DeleteFunc stands: the first i are those that stay of the first j, from j on nothing has turned. -/
def DelAt (p : Int → Bool) (l xs : List Int) (i j : Nat) : Prop := i < j ∧ xs.length = l.length ∧ xs.take i = (l.take j).filter (fun x => !p x) ∧ xs.drop j = l.drop j
theorem rd_at (l : List Int) (j : Nat) (hj : j < l.length) : rd l (j : Int) = l[j] := by
  unfold rd
  rw [Int.toNat_natCast, List.getD_eq_getElem?_getD, List.getElem?_eq_getElem hj]
  rfl
theorem filter_step (p : Int → Bool) (l : List Int) (j : Nat) (hj : j < l.length) : (l.take (j + 1)).filter (fun x => !p x) = (l.take j).filter (fun x => !p x) ++ (if p (rd l (j : Int)) = true then [] else [rd l (j : Int)]) := by
  rw [List.take_succ_eq_append_getElem hj, List.filter_append, rd_at l j hj]
  cases h : p l[j] <;> simp [h]
theorem DelAt.start {p : Int → Bool} {l : List Int} {n : Nat} (hn : n < l.length) (hp : p (rd l (n : Int)) = true) (h : ∀ j : Nat, j < n → p (rd l (j : Int)) = false) : DelAt p l l n (n + 1) := by
  refine ⟨by omega, rfl, ?_, rfl⟩
  rw [filter_step p l n hn, if_pos hp, List.append_nil, eq_comm, List.filter_eq_self]
  intro x hx
  obtain ⟨j, hj, rfl⟩ := List.getElem_of_mem hx
  rw [List.length_take] at hj
  have := h j (by omega)
  rw [rd_at l j (by omega)] at this
  rw [List.getElem_take, this]
  rfl
theorem DelAt.at_ {p : Int → Bool} {l xs : List Int} {i j : Nat} (h : DelAt p l xs i j) (hj : j < l.length) : rd xs (j : Int) = rd l (j : Int) := by
  obtain ⟨h1, h2, h3, h4⟩ := h
  rw [rd_at l j hj, rd_at xs j (by omega)]
  have := congrArg (fun x => x[0]?) h4
  simpa [List.getElem?_drop, List.getElem?_eq_getElem hj, List.getElem?_eq_getElem (show j < xs.length by omega)] using this
theorem DelAt.skip {p : Int → Bool} {l xs : List Int} {i j : Nat} (h : DelAt p l xs i j) (hj : j < l.length) (hp : p (rd l (j : Int)) = true) : DelAt p l xs i (j + 1) := by
  obtain ⟨h1, h2, h3, h4⟩ := h
  refine ⟨by omega, h2, ?_, ?_⟩
  · rw [filter_step p l j hj, if_pos hp, List.append_nil, h3]
  · rw [← List.drop_drop, ← List.drop_drop, h4]
theorem DelAt.keep {p : Int → Bool} {l xs : List Int} {i j : Nat} (h : DelAt p l xs i j) (hj : j < l.length) (hp : p (rd l (j : Int)) = false) : DelAt p l (xs.set i (rd l (j : Int))) (i + 1) (j + 1) := by
  obtain ⟨h1, h2, h3, h4⟩ := h
  refine ⟨by omega, by rw [List.length_set]; exact h2, ?_, ?_⟩
  · rw [filter_step p l j hj, if_neg (by rw [hp]; exact Bool.false_ne_true), ← h3, List.take_succ_eq_append_getElem (by rw [List.length_set]; omega), List.take_set_of_le (Nat.le_refl _), List.getElem_set_self]
  · rw [List.drop_set_of_lt (by omega), ← List.drop_drop, ← List.drop_drop, h4]
theorem DelAt.done {p : Int → Bool} {l xs : List Int} {i : Nat} (h : DelAt p l xs i l.length) : xs.take i = l.filter (fun x => !p x) := by
  rw [h.2.2.1, List.take_length]
theorem below_cells {B g : Nat} {a : World} (hg : B ≤ g) : ∀ (vs : List Value) (o : Nat) (w : World), Below B a w → Below B a (w.setCells g o vs)
  | [], _, _, h => h
  | v :: r, o, w, h => below_cells hg r (o + 1) _ (h.setCell hg v)
set_option maxHeartbeats 4000000 in
set_option maxRecDepth 100000 in
theorem delP_calls (g : Nat) (lb : Array Value) (eg : ∀ args w, (callFunc g args).run Try.prog w = .ok (.enter g args) w) (p : Int → Bool) (v : Value) (l0 : List Int) (w0 w : World) (hp : Asks g lb p l0 w0) (hb0 : Below w0.heap.size w0 w) (hr : Kd.R (Kd.int .i64) 3 w w0.heap.size (fun _ => True) v l0) (hl : l0.length ≤ 1000000) :
    Calls Try.prog 107 #[v, .func (.func g) #[] lb] w fun e w' => ∃ v' : Value, e = .returned v' ∧ Kd.R (Kd.int .i64) 3 w' w0.heap.size (fun _ => True) v' (l0.filter fun x => !p x) ∧ Below w0.heap.size w0 w' := by
  obtain ⟨A0, c0, rfl, hc0, hC⟩ := Kd.R_reads hr
  have HI : Calls Try.prog 95 #[.slice A0 l0.length c0, .func (.func g) #[] lb] w (fun e w' => ∃ i : Int, e = .returned (.int .i64 i) ∧ Aside0 (IdxP p l0 i) ∧ Below w.heap.size w w') := idxP_calls g lb eg p A0 c0 l0 w0 w hp hb0 hC (by omega)
  have HR := Aside0.mk hr
  have HB0 := Aside0.mk hb0
  have HP := Aside0.mk hp
  have HII := Aside0.mk HI
  clear hr hb0 hp hC HI
  obtain ⟨F, hF⟩ : ∃ F, F = l0.filter fun x => !p x := ⟨_, rfl⟩
  have HF := Aside0.mk hF
  rw [← hF]
  clear hF
  go_enter Try.func107, Try.ntmps107
  go_upto_region 2 with (first | (go_at_call 95; refine HII.out.mono ?_; rintro e w1 ⟨i, rfl, hi, hb⟩; have hb1 := Aside0.mk hb; clear hb))
  rcases hi.out with ⟨rfl, hall⟩ | ⟨n0, rfl, hn0, hp0, hpre⟩
  · have hfin : F = l0 := by
      rw [HF.out, List.filter_eq_self]
      intro x hx
      simp [hall x hx]
    have HFin := Aside0.mk hfin
    clear hi hall hfin
    go_wp2
    go_ret
    exact ⟨_, rfl, by rw [HFin.out]; exact Kd.R_below HR.out hb1.out, below_step HB0.out hb1.out⟩
  · obtain ⟨gb, rfl, hgb⟩ : ∃ gb, A0 = some ⟨gb, 0, none⟩ ∧ w0.heap.size ≤ gb := by
      rcases (Kd.own_of_R HR.out).2 with ⟨_, hn⟩ | ⟨gb, cap, cur, he, hb, _⟩
      · omega
      · injection he with e1 _ _
        exact ⟨gb, e1, hb⟩
    have hne1 : ((n0 : Int) == -1) = false := beq_eq_false_iff_ne.2 (by omega)
    have HPre := Aside0.mk hpre
    have HP0 := Aside0.mk hp0
    clear hi hpre hp0
    go_wp2
    go_loopg [5, 6, 7] l0.length (fun gg s5 s6 _ wr => ∃ (i j : Nat) (xs : List Int), s5 = .int .i64 i ∧ s6 = .int .i64 j ∧ j ≤ l0.length ∧ l0.length - j ≤ gg ∧ Aside0 (DelAt p l0 xs i j) ∧ Aside0 (Kd.R (Kd.int .i64) 3 wr w0.heap.size (fun _ => True) (.slice (some ⟨gb, 0, none⟩) xs.length c0) xs) ∧ Aside0 (Below w0.heap.size w0 wr))
    case atStart => exact ⟨n0, n0 + 1, l0, rfl, by go_num, by omega, by omega, ⟨DelAt.start hn0 HP0.out HPre.out⟩, ⟨Kd.R_below HR.out hb1.out⟩, ⟨below_step HB0.out hb1.out⟩⟩
    case round =>
      obtain ⟨i, j, xs, rfl, rfl, hjd, hgg, HD, HX, HB⟩ := hrel
      have hij := HD.out.1
      have hxl := HD.out.2.1
      by_cases hlt : j < l0.length
      · have hltz : decide ((j : Int) < (l0.length : Int)) = true := decide_eq_true (by omega)
        obtain ⟨cj, _⟩ := Kd.R_cell 0 HX.out (j : Int) (by omega) (by omega)
        obtain ⟨ci, fi⟩ := Kd.R_cell 0 HX.out (i : Int) (by omega) (by omega)
        have hat : rdOf 0 xs (j : Int) = rd l0 (j : Int) := HD.out.at_ hlt
        rw [hat, Int.toNat_natCast] at cj
        rw [Int.toNat_natCast] at ci fi
        have hmem := rd_mem l0 (j : Int) (by omega) (by omega)
        have hcall : Calls Try.prog g (#[.int .i64 (rd l0 (j : Int))] ++ lb) wr fun e w' => e = .returned (.bool (p (rd l0 (j : Int)))) ∧ Below wr.heap.size wr w' := HP.out _ _ hmem HB.out
        clear cj
        obtain ⟨x, hx⟩ : ∃ x, x = rd l0 (j : Int) := ⟨_, rfl⟩
        have cj : wr.cell? ⟨gb, j, none⟩ = some (.int .i64 x) := by
          rw [hx, ← hat]
          have := (Kd.R_cell 0 HX.out (j : Int) (by omega) (by omega)).1
          rwa [Int.toNat_natCast] at this
        rw [← hx] at hcall hmem
        have HXx := Aside0.mk hx
        clear hat hx hmem
        generalize rdOf 0 xs (i : Int) = old at ci
        have k1 : (0 ≤ (j : Int)) = True := eq_true (by omega)
        have k2 : ((j : Int) < (l0.length : Int)) = True := eq_true (by omega)
        have k3 : (0 ≤ (i : Int)) = True := eq_true (by omega)
        have k4 : ((i : Int) < (l0.length : Int)) = True := eq_true (by omega)
        cases hq : p x with
        | true =>
          rw [hq] at hcall
          have HQ := Aside0.mk hq
          clear hq
          go_wp2_with (go_at_fn g; refine hcall.mono ?_; rintro e w2 ⟨rfl, hb⟩)
          go_roundg (l0.length - (j + 1))
          case measure => omega
          case rel =>
            have hx' := HXx.out
            have hq' := HQ.out
            exact ⟨i, j + 1, xs, rfl, by go_num, by omega, Nat.le_refl _, ⟨HD.out.skip hlt (by rw [← hx']; exact hq')⟩, ⟨by repeat (first | exact Kd.R_below HX.out hb | apply Kd.R_drewN)⟩, ⟨by repeat (first | exact below_step HB.out hb | apply below_drew1 | apply pw_below_drewN)⟩⟩
        | false =>
          rw [hq] at hcall
          have HQ := Aside0.mk hq
          clear hq
          go_wp2
          go_at_fn g
          refine hcall.mono ?_
          rintro e w2 ⟨rfl, hb⟩
          obtain ⟨ci2, fi2⟩ := Kd.R_cell 0 (Kd.R_below HX.out hb) (i : Int) (by omega) (by omega)
          rw [Int.toNat_natCast] at ci2 fi2
          generalize rdOf 0 xs (i : Int) = old2 at ci2
          clear ci fi cj
          go_wp2
          go_roundg (l0.length - (j + 1))
          case measure => omega
          case rel =>
            have hx' := HXx.out
            have hq' := HQ.out
            have hRp := (Kd.R_put (Kd.R_below HX.out hb) (i : Int) x).1
            rw [Int.toNat_natCast] at hRp
            have hD2 := HD.out.keep hlt (by rw [← hx']; exact hq')
            rw [← hx'] at hD2
            exact ⟨i + 1, j + 1, xs.set i x, by go_num, by go_num, by omega, Nat.le_refl _, ⟨hD2⟩, ⟨by rw [List.length_set]; exact hRp⟩, ⟨below_set (below_step HB.out hb) hgb⟩⟩
      · obtain rfl : j = l0.length := by omega
        have hltz : decide ((l0.length : Int) < (l0.length : Int)) = false := decide_eq_false (by omega)
        have hcl : ∀ ty, (Builtin.clear_ #[22] ty #[.slice (some ⟨gb, i, none⟩) (l0.length - i) (c0 - i)]).run Try.prog wr = .ok (.tuple #[]) (wr.setCells gb i (List.replicate (l0.length - i) (.int .i64 0))) :=
          fun ty => Lib.run_clear_slice wr _ _ ty (.int .i64 0) Try.underlying22 (fun w => rfl) rfl rfl gb i _ _ (by omega) (fun t ht => by
            have := (Kd.R_cell 0 HX.out ((i + t : Nat) : Int) (by omega) (by omega)).1
            rw [Int.toNat_natCast] at this
            rw [this]; rfl) (fun t ht => by
            have := (Kd.R_cell 0 HX.out ((i + t : Nat) : Int) (by omega) (by omega)).2
            rwa [Int.toNat_natCast] at this)
        go_wp2
        go_ret
        have hfin : xs.take i = F := by rw [HD.out.done, HF.out]
        have hil : (xs.take i).length = i := by rw [List.length_take]; omega
        have hT := Kd.R_take HX.out (show i ≤ xs.length by omega)
        have hown := Kd.own_of_R hT
        rw [hil] at hown
        have hset := own_behind (List.replicate (l0.length - i) (.int .i64 0)) i wr (Nat.le_refl _) hown
        refine ⟨_, rfl, ?_, below_cells hgb _ _ _ HB.out⟩
        rw [← hfin]
        exact Kd.R_of_own (by rw [hil]; exact hset) hT.1
end Go.Proofs.Ytgifhmjbmnopcaa.Giv
