import Derived.Test.YtgifhmjbmnopcaaGivDel
import Derived.Deep.RegionWith
import Derived.Test.YtgifhmjbmnopcaaGivK
import Derived.Test.YtgifhmjbmnopcaaPx2
import Derived.Test.YtgifhmjbmnopcaaPx2
namespace Go.Proofs.Ytgifhmjbmnopcaa.Giv
set_option linter.unusedVariables false
set_option linter.unusedSimpArgs false
open Go.RowKit Go.Proofs.YtgifhmjbmnopcaaW.PrintWords Go.Proofs.YtgifhmjbmnopcaaW.PrintLast Go.Proofs.YtgifhmjbmnopcaaW.PrintMore Go.Proofs.Ytgifhmjbmnopcaa.Px
/-- Whether a letter's nail is in a set, and whether a letter has a nail. -/
def takB (x : Int) : Bool := (impl_nailBit.f x).isSome
def takP (set x : Int) : Bool := Go.bits .and .i64 set ((impl_nailBit.f x).getD 0) != 0
def impl_taken.f (k : Nat) (l : List Int) (set : Int) : Option (List Int) := if l.all takB = true ∧ l.length ≤ 1000000 then impl_reduced.f k (l.filter fun x => !takP set x) else none
theorem impl_taken.mono : ∀ l set k, LeO (impl_taken.f k l set) (impl_taken.f (k + 1) l set) := by
  intro l set k r h
  unfold impl_taken.f at h ⊢
  split at h
  · rename_i hc
    rw [if_pos hc]
    exact impl_reduced.mono _ k r h
  · cases h
set_option maxHeartbeats 4000000 in
set_option maxRecDepth 100000 in
theorem takP_calls (set x b : Int) (g : Nat) (W : World) (t : TypeId) (hbox : W.heap[g]? = some (.cells #[.int .i64 set] t (0, 0))) (h : impl_nailBit.f x = some b) :
    Calls Try.prog 109 #[.int .i64 x, .pointer (some ⟨g, 0, none⟩)] W fun e w' => e = .returned (.bool (Go.bits .and .i64 set b != 0)) ∧ Below W.heap.size W w' := by
  have hc : W.cell? ⟨g, 0, none⟩ = some (.int .i64 set) := (blk_cell hbox 0).trans rfl
  have HB := Aside0.mk hbox
  clear hbox
  go_enter Try.func109, Try.ntmps109
  go_wp2
  go_region_with (first | (go_at_call 73; refine (impl_nailBit.calls x b _ h).mono ?_; rintro e w1 ⟨rfl, hb⟩; have hc1 : w1.cell? ⟨g, 0, none⟩ = some (.int .i64 set) := (blk_cell (blk_below (show W.drew.heap[g]? = _ from HB.out) hb) 0).trans rfl))
  all_goals (go_wp2; go_ret; exact ⟨rfl, below_step (below_drew1 (Below.refl _ _)) hb⟩)
theorem takP_asks (set : Int) (l : List Int) (g : Nat) (w0 : World) (t : TypeId) (hbox : w0.heap[g]? = some (.cells #[.int .i64 set] t (0, 0))) (hl : l.all takB = true) : Asks 109 #[.pointer (some ⟨g, 0, none⟩)] (takP set) l w0 := by
  intro W x hx hb
  have hx1 := List.all_eq_true.1 hl x hx
  obtain ⟨b, hb1⟩ := Option.isSome_iff_exists.1 hx1
  have := takP_calls set x b g W t (blk_below hbox hb) hb1
  unfold takP
  rw [hb1]
  exact this
theorem takP_enters (args : Array Value) (w : World) : (callFunc 109 args).run Try.prog w = .ok (.enter 109 args) w := by
  exact enters_of Try.func109 (by kernel_rfl) rfl args w
set_option maxHeartbeats 4000000 in
set_option maxRecDepth 100000 in
theorem impl_taken.calls (k : Nat) (A0 : Option Addr) (c0 : Nat) (l0 : List Int) (set : Int) (r : List Int) (w : World) (hr0 : Kd.C (Kd.int .i64) w A0 l0.length l0) (hc0 : l0.length ≤ c0) (h : impl_taken.f k l0 set = some r) :
    Calls Try.prog 99 #[.slice A0 l0.length c0, .int .i64 set] w fun e w' => ∃ v0_ : Value, e = .returned v0_ ∧ Kd.R (Kd.int .i64) 3 w' w.heap.size (fun _ => True) v0_ r ∧ Below w.heap.size w w' := by
  unfold impl_taken.f at h
  split at h
  · rename_i hc
    have HR0 := Aside0.mk hr0
    have hl := hc.2
    have HC := Aside0.mk hc.1
    have H := Aside0.mk h
    clear hr0 hc h
    go_enter Try.func99, Try.ntmps99
    go_wp2_with (first | (go_at_call 108; refine (slices_Clone_int_int.calls A0 c0 l0 l0 _ (Kd.C_alloc HR0.out _) hc0 (if_pos (by omega))).mono ?_; rintro e w1 ⟨v0, rfl, ho, hb⟩; have hb1 := Aside0.mk (below_step (below_alloc (Below.refl _ _) _) hb); have hd := delP_calls 109 #[.pointer (some ⟨w.heap.size, 0, none⟩)] takP_enters (takP set) v0 l0 _ w1 (takP_asks set l0 _ _ 3 (blk_new w _) HC.out) hb ho (by omega); clear ho hb) | (go_at_call 107; refine hd.mono ?_; rintro e w2 ⟨v1, rfl, ho, hb⟩; clear hd; obtain ⟨A1, c1, rfl, hc1, hC1⟩ := Kd.R_reads ho) | (go_at_call 106; refine (impl_reduced.calls k A1 c1 _ r _ hC1 hc1 H.out).mono ?_; rintro e w3 ⟨v2, rfl, ho3, hb3⟩))
    go_ret
    have hB2 : Below w.heap.size w w2 := below_step (below_alloc (Below.refl _ _) _) hb
    exact ⟨_, rfl, Kd.R_lower ho3 (below_size hB2), below_step hB2 hb3⟩
  · cases h
end Go.Proofs.Ytgifhmjbmnopcaa.Giv
