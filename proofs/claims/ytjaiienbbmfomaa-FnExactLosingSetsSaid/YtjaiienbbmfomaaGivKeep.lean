import Derived.Test.YtjaiienbbmfomaaGivGame
namespace Go.Proofs.Ytjaiienbbmfomaa.Giv
set_option linter.unusedVariables false
set_option linter.unusedSimpArgs false
open Go.RowKit Go.Proofs.YtjaiienbbmfomaaW.PrintWords Go.Proofs.YtjaiienbbmfomaaW.PrintLast Go.Proofs.YtjaiienbbmfomaaW.PrintMore Go.Proofs.Ytjaiienbbmfomaa.Px Go.Proofs.Ytjaiienbbmfomaa.Q
theorem fn_args (x : Value) (p : Array Value) : #[x] ++ p = (x :: p.toList).toArray := by simp
set_option maxHeartbeats 4000000 in
set_option maxRecDepth 100000 in
theorem that1_calls (f : Nat) (lb : Array Value) (eg : ∀ args w, (callFunc f args).run Try.prog w = .ok (.enter f args) w) (q : Int → Bool) (S : List Int) (set x : Int) (b0 b1 : Nat) (t0 t1 : TypeId) (w0 W : World)
    (hb0 : w0.heap[b0]? = some (.cells #[.int .i64 set] t0 (0, 0))) (hb1 : w0.heap[b1]? = some (.cells #[.func (.func f) #[] lb] t1 (0, 0))) (hb : Below w0.heap.size w0 W) (hso : Asks f lb q S w0) (hx1 : 1 ≤ x) (hx2 : x ≤ 6) (hS : nextI set x ∈ S) :
    Calls Try.prog 155 #[.int .i64 x, .pointer (some ⟨b1, 0, none⟩), .pointer (some ⟨b0, 0, none⟩)] W fun e w' => e = .returned (.bool (!q (nextI set x))) ∧ Below W.heap.size W w' := by
  have hc0 : W.cell? ⟨b0, 0, none⟩ = some (.int .i64 set) := (blk_cell (blk_below hb0 hb) 0).trans rfl
  have hc1 : W.cell? ⟨b1, 0, none⟩ = some (.func (.func f) #[] lb) := (blk_cell (blk_below hb1 hb) 0).trans rfl
  have HN := Aside0.mk (nb_f hx1 hx2)
  have H0 := Aside0.mk (blk_below hb0 hb)
  have H1 := Aside0.mk (blk_below hb1 hb)
  have HS : Aside0 (∀ W', Below W.heap.size W W' → Calls Try.prog f (#[.int .i64 (Go.bits .or .i64 set (nb x))] ++ lb) W' fun e w' => e = .returned (.bool (q (nextI set x))) ∧ Below W'.heap.size W' w') := ⟨fun W' h => hso W' _ hS (below_step hb h)⟩
  obtain ⟨r, hr⟩ : ∃ r, r = q (nextI set x) := ⟨_, rfl⟩
  rw [← hr] at HS ⊢
  clear hb0 hb1 hb hso hr
  go_enter Try.func155, Try.ntmps155
  go_wp2
  go_region_with (first | (go_at_call 118; refine (impl_nailBit.calls x (nb x) _ HN.out).mono ?_; rintro e w1 ⟨rfl, hbn⟩; have c0 : w1.cell? ⟨b0, 0, none⟩ = some (.int .i64 set) := (blk_cell (blk_below (show W.drew.heap[b0]? = _ from H0.out) hbn) 0).trans rfl; have c1 : w1.cell? ⟨b1, 0, none⟩ = some (.func (.func f) #[] lb) := (blk_cell (blk_below (show W.drew.heap[b1]? = _ from H1.out) hbn) 0).trans rfl; have HW1 := Aside0.mk (below_step (below_drew1 (Below.refl W.heap.size W)) hbn)) | (go_at_fn f; refine (HS.out _ HW1.out).mono ?_; rintro e w2 ⟨rfl, hbs⟩))
  all_goals (go_wp2; go_ret; exact ⟨rfl, below_step HW1.out hbs⟩)
theorem that1_enters (args : Array Value) (w : World) : (callFunc 155 args).run Try.prog w = .ok (.enter 155 args) w := enters_of Try.func155 (by kernel_rfl) rfl args w
set_option maxHeartbeats 4000000 in
set_option maxRecDepth 100000 in
theorem that_calls (f : Nat) (lb : Array Value) (eg : ∀ args w, (callFunc f args).run Try.prog w = .ok (.enter f args) w) (q : Int → Bool) (g : Nat) (n set : Int) (T : Int → Bool) (w : World) (hg : GameIn w g n T) (h1 : 1 ≤ n) (h2 : n ≤ 6) (hso : Asks f lb q ((inL n set).map (nextI set)) w) :
    Calls Try.prog 126 #[.pointer (some ⟨g, 0, none⟩), .int .i64 set, .func (.func f) #[] lb] w fun e w' => ∃ v, e = .returned v ∧ Kd.R (Kd.int .i64) 3 w' w.heap.size (fun _ => True) v ((inL n set).filter fun x => q (nextI set x)) ∧ Below w.heap.size w w' := by
  have HG := Aside0.mk hg
  have HSO := Aside0.mk hso
  clear hg hso
  obtain ⟨F, hF⟩ : ∃ F, F = (inL n set).filter fun x => q (nextI set x) := ⟨_, rfl⟩
  rw [← hF]
  have HF : Aside0 (F = (inL n set).filter fun x => !(!q (nextI set x))) := ⟨by rw [hF]; congr 1; funext x; simp⟩
  clear hF
  have hb0 : ((w.alloc (.cells #[.int .i64 set] 3)).alloc (.cells #[.func (.func f) #[] lb] 114)).heap[w.heap.size]? = some (.cells #[.int .i64 set] 3 (0, 0)) := heap_alloc2_old _ _ _
  have hb1 : ((w.alloc (.cells #[.int .i64 set] 3)).alloc (.cells #[.func (.func f) #[] lb] 114)).heap[w.heap.size + 1]? = some (.cells #[.func (.func f) #[] lb] 114 (0, 0)) := heap_alloc2_new _ _ _
  have hbw : Below w.heap.size w ((w.alloc (.cells #[.int .i64 set] 3)).alloc (.cells #[.func (.func f) #[] lb] 114)) := below_alloc (below_alloc (Below.refl _ _) _) _
  have hasks : Asks 155 #[.pointer (some ⟨w.heap.size + 1, 0, none⟩), .pointer (some ⟨w.heap.size, 0, none⟩)] (fun x => !q (nextI set x)) (inL n set) ((w.alloc (.cells #[.int .i64 set] 3)).alloc (.cells #[.func (.func f) #[] lb] 114)) := by
    intro W x hx hb
    have hnx := inL_nail hx
    exact that1_calls f lb eg q ((inL n set).map (nextI set)) set x _ _ _ _ _ W hb0 hb1 hb (fun W' y hy hb' => HSO.out W' y hy (below_step hbw hb')) hnx.1 hnx.2.1 (List.mem_map.2 ⟨x, hx, rfl⟩)
  have HA := Aside0.mk hasks
  have HBW := Aside0.mk hbw
  have HG2 := Aside0.mk (GameIn.below HG.out hbw)
  clear hb0 hb1 hasks hbw
  go_enter Try.func126, Try.ntmps126
  go_wp2_with (first | (go_at_call 135; refine (in_calls g n set T _ HG2.out h1 h2).mono ?_; rintro e w3 ⟨v, rfl, ho, hb⟩; have hd := delP_calls 155 _ that1_enters _ v (inL n set) _ w3 HA.out hb ho (by have := @inL_le n set; omega); clear ho hb) | (go_at_call 116; refine hd.mono ?_; rintro e w4 ⟨v4, rfl, ho, hb⟩; clear hd))
  go_ret
  rw [HF.out]
  exact ⟨_, rfl, Kd.R_lower ho (below_size HBW.out), below_step HBW.out hb⟩
/-- The nails by which the player who is to move wins the game to keep. -/
def keepsL : Nat → (Int → Bool) → Int → Int → List Int
  | 0, _, _, _ => []
  | d + 1, T, n, set => (inL n set).filter fun x => !T (nextI set x) && (keepsL d T n (nextI set x)).isEmpty
theorem keeps1_enters (args : Array Value) (w : World) : (callFunc 127 args).run Try.prog w = .ok (.enter 127 args) w := enters_of Try.func127 (by kernel_rfl) rfl args w
/-- What keeps has to answer at a position. -/
def KeepsAt (d : Nat) (g : Nat) (n set : Int) (T : Int → Bool) (w : World) : Prop := Calls Try.prog 86 #[.pointer (some ⟨g, 0, none⟩), .int .i64 set] w fun e w' => ∃ v, e = .returned v ∧ Kd.R (Kd.int .i64) 3 w' w.heap.size (fun _ => True) v (keepsL d T n set) ∧ Below w.heap.size w w'
set_option maxHeartbeats 4000000 in
set_option maxRecDepth 100000 in
theorem keeps1_calls (d : Nat) (g b : Nat) (n next : Int) (T : Int → Bool) (t : TypeId) (w0 W : World) (hg : GameIn w0 g n T) (hbx : w0.heap[b]? = some (.cells #[.pointer (some ⟨g, 0, none⟩)] t (0, 0))) (hb : Below w0.heap.size w0 W) (h0 : 0 ≤ next) (h1 : next ≤ 63) (hk : ∀ W', GameIn W' g n T → KeepsAt d g n next T W') :
    Calls Try.prog 127 #[.int .i64 next, .pointer (some ⟨b, 0, none⟩)] W fun e w' => e = .returned (.bool (!T next && (keepsL d T n next).isEmpty)) ∧ Below W.heap.size W w' := by
  obtain ⟨s, rfl⟩ := Int.eq_ofNat_of_zero_le h0
  have k1 : (0 ≤ (s : Int)) = True := eq_true (by omega)
  have k2 : ((s : Int) < 64) = True := eq_true (by omega)
  have c0 : W.cell? ⟨b, 0, none⟩ = some (.pointer (some ⟨g, 0, none⟩)) := (blk_cell (blk_below hbx hb) 0).trans rfl
  have c1 := (hg.below hb).falls s (by omega)
  have HK := Aside0.mk (hk W (hg.below hb))
  clear hg hbx hb hk
  cases hT : T (s : Int) with
  | true =>
    rw [hT] at c1
    clear hT
    go_enter Try.func127, Try.ntmps127
    go_wp2
    go_ret
    exact ⟨rfl, Below.refl _ _⟩
  | false =>
    rw [hT] at c1
    clear hT
    go_enter Try.func127, Try.ntmps127
    go_wp2_with (first | (go_at_call 86; refine (show Calls _ _ _ W _ from HK.out).mono ?_; rintro e w3 ⟨v, rfl, ho, hb⟩; obtain ⟨A1, c1_, rfl, hc1, hC1⟩ := Kd.R_reads ho; clear ho))
    go_ret
    exact ⟨by rw [isEmpty_len]; rfl, hb⟩
set_option maxHeartbeats 4000000 in
set_option maxRecDepth 100000 in
theorem keeps_step (d g : Nat) (n set : Int) (T : Int → Bool) (w : World) (hg : GameIn w g n T) (h1 : 1 ≤ n) (h2 : n ≤ 6) (hp : posB n set = true) (q : Int → Bool) (R : List Int) (hR : R = (inL n set).filter fun x => q (nextI set x)) (hq : ∀ next, next ∈ (inL n set).map (nextI set) → q next = (!T next && (keepsL d T n next).isEmpty)) (hk : ∀ next, next ∈ (inL n set).map (nextI set) → ∀ W', GameIn W' g n T → KeepsAt d g n next T W') :
    Calls Try.prog 86 #[.pointer (some ⟨g, 0, none⟩), .int .i64 set] w fun e w' => ∃ v, e = .returned v ∧ Kd.R (Kd.int .i64) 3 w' w.heap.size (fun _ => True) v R ∧ Below w.heap.size w w' := by
  have hbw : Below w.heap.size w (w.alloc (.cells #[.pointer (some ⟨g, 0, none⟩)] 94)) := below_alloc (Below.refl _ _) _
  have hg2 := hg.below hbw
  have hbx := blk_new w (.cells #[.pointer (some ⟨g, 0, none⟩)] 94)
  have hasks : Asks 127 #[.pointer (some ⟨w.heap.size, 0, none⟩)] q ((inL n set).map (nextI set)) (w.alloc (.cells #[.pointer (some ⟨g, 0, none⟩)] 94)) := by
    intro W next hx hb
    rw [hq next hx]
    obtain ⟨x, hxi, rfl⟩ := List.mem_map.1 hx
    have hr := pos_range h1 h2 ((game_at h1 h2 hp).2 x hxi).1
    exact keeps1_calls d g _ n _ T _ _ W hg2 hbx hb hr.1 hr.2 (hk _ hx)
  have HT := Aside0.mk (that_calls 127 _ keeps1_enters q g n set T _ hg2 h1 h2 hasks)
  have HBW := Aside0.mk hbw
  rw [← hR] at HT
  clear hg hR hq hk hg2 hbx hasks hbw
  go_enter Try.func86, Try.ntmps86
  go_wp2_with (first | (go_at_call 126; refine HT.out.mono ?_; rintro e w3 ⟨v, rfl, ho, hb⟩))
  go_ret
  exact ⟨_, rfl, Kd.R_lower ho (below_size HBW.out), below_step HBW.out hb⟩
theorem keeps_calls : ∀ (d : Nat) (set : Int) (g : Nat) (n : Int) (T : Int → Bool) (w : World), GameIn w g n T → 1 ≤ n → n ≤ 6 → posB n set = true → (inL n set).length ≤ d → KeepsAt d g n set T w := by
  intro d
  induction d with
  | zero =>
    intro set g n T w hg h1 h2 hp hl
    have h0 : inL n set = [] := List.eq_nil_of_length_eq_zero (by omega)
    exact keeps_step 0 g n set T w hg h1 h2 hp (fun _ => false) _ (by rw [h0]; rfl) (by rw [h0]; simp) (by rw [h0]; simp)
  | succ d ih =>
    intro set g n T w hg h1 h2 hp hl
    refine keeps_step d g n set T w hg h1 h2 hp (fun next => !T next && (keepsL d T n next).isEmpty) _ rfl (fun _ _ => rfl) ?_
    intro next hx W' hg'
    obtain ⟨x, hxi, rfl⟩ := List.mem_map.1 hx
    have hga := (game_at h1 h2 hp).2 x hxi
    exact ih _ g n T W' hg' h1 h2 hga.1 (by omega)
/-- What both sides answer: the moves that win, and whether there is a game. -/
def keepP (w : List Int) (n set : Int) : List Int × Bool := if gameB w n set = true then (keepsL 6 (fallT w) n set, true) else ([], false)
def impl_KeepMoves.f (k : Nat) (l0 : List Int) (a1 : Int) (a2 : Int) : Option (List Int × Bool) := if 2 * l0.length + 10 < k ∧ l0.length ≤ 1048576 then some (keepP l0 a1 a2) else none
theorem impl_KeepMoves.mono : ∀ l0 a1 a2 k, LeO (impl_KeepMoves.f k l0 a1 a2) (impl_KeepMoves.f (k + 1) l0 a1 a2) := by
  intro l0 a1 a2 k r h
  unfold impl_KeepMoves.f at h ⊢
  split at h
  · rename_i hc
    rw [if_pos (by omega)]
    exact h
  · cases h
theorem gameB_parts {w : List Int} {n set : Int} (h : gameB w n set = true) : wordB w = true ∧ 1 ≤ n ∧ n ≤ 6 ∧ posB n set = true := by
  unfold gameB at h
  simp only [Bool.and_eq_true, decide_eq_true_eq] at h
  exact ⟨h.1.1.1, h.1.1.2.1, h.1.1.2.2, h.1.2⟩
set_option maxHeartbeats 4000000 in
set_option maxRecDepth 100000 in
theorem impl_KeepMoves.calls (k : Nat) (A0 : Option Addr) (c0 : Nat) (l0 : List Int) (a1 : Int) (a2 : Int) (r1 : List Int) (r2 : Bool) (w : World) (hr0 : Kd.C (Kd.int .i64) w A0 l0.length l0) (hc0 : l0.length ≤ c0) (h : impl_KeepMoves.f k l0 a1 a2 = some (r1, r2)) :
    Calls Try.prog 45 #[.slice A0 l0.length c0, .int .i64 a1, .int .i64 a2] w fun e w' => ∃ v0_ : Value, e = .returned (.tuple #[v0_, .bool r2]) ∧ Kd.R (Kd.int .i64) 3 w' w.heap.size (fun _ => True) v0_ r1 ∧ Below w.heap.size w w' := by
  have HGA := Aside0.mk (gameAt_calls A0 c0 l0 a1 a2 w hr0 hc0)
  unfold impl_KeepMoves.f at h
  split at h
  · have h := Option.some.inj h
    unfold keepP at h
    cases hg : gameB l0 a1 a2 with
    | false =>
      rw [hg] at h HGA
      simp only [Bool.false_eq_true, if_false, Prod.mk.injEq] at h
      obtain ⟨rfl, rfl⟩ := h
      clear hg hr0
      go_enter Try.func45, Try.ntmps45
      go_wp2_with (first | (go_at_call 85; refine HGA.out.mono ?_; rintro e w1 ⟨p, rfl, HP, hb⟩))
      go_ret2
      exact ⟨_, rfl, Kd.R_nil _ _ _ _ _, hb⟩
    | true =>
      rw [hg] at h HGA
      simp only [if_true, Prod.mk.injEq] at h
      obtain ⟨rfl, rfl⟩ := h
      obtain ⟨hw, h1, h2, hp⟩ := gameB_parts hg
      have HK : Aside0 (∀ g W, GameIn W g a1 (fallT l0) → KeepsAt 6 g a1 a2 (fallT l0) W) := ⟨fun g W hgi => keeps_calls 6 a2 g a1 (fallT l0) W hgi h1 h2 hp inL_le⟩
      clear hg hr0 hw hp
      go_enter Try.func45, Try.ntmps45
      go_wp2_with (first | (go_at_call 85; refine HGA.out.mono ?_; rintro e w1 ⟨p, rfl, HP, hb⟩; obtain ⟨g, rfl, hgi⟩ := HP.out rfl) | (go_at_call 86; refine (show Calls _ _ _ _ _ from HK.out g _ hgi).mono ?_; rintro e w2 ⟨v, rfl, ho, hb2⟩))
      go_ret2
      exact ⟨_, rfl, Kd.R_lower ho (below_size hb), below_step hb hb2⟩
  · cases h
end Go.Proofs.Ytjaiienbbmfomaa.Giv
