import Derived.Test.YtjaiienbbmfomaaPx0
namespace Go.Proofs.Ytjaiienbbmfomaa.Giv
set_option linter.unusedVariables false
set_option linter.unusedSimpArgs false
open Go.RowKit Go.Proofs.YtjaiienbbmfomaaW.PrintWords Go.Proofs.YtjaiienbbmfomaaW.PrintLast Go.Proofs.YtjaiienbbmfomaaW.PrintMore
open Go.Proofs.Ytjaiienbbmfomaa.Px in
theorem slices_Grow_nil (n : Int) (w : World) (h0 : 0 ≤ n) (h1 : n ≤ 17592186044415) :
    Calls Try.prog 166 #[.slice none 0 0, .int .i64 n] w fun e w' => ∃ v0_ : Value, e = .returned (v0_) ∧ Kd.R (Kd.int .i64) 3 w' w.heap.size (fun _ => True) v0_ ([] : List Int) ∧ Below w.heap.size w w' := by
  have hn0 : decide (n < 0) = false := decide_eq_false (by omega)
  by_cases h2 : n = 0
  · subst h2
    go_enter Try.func166, Try.ntmps166
    go_wp2
    go_ret
    exact ⟨_, rfl, Kd.R_nil _ _ _ _ _, Below.refl _ _⟩
  · have h3 : 0 < n := by omega
    clear h2 hn0
    go_enter Try.func166, Try.ntmps166
    go_wp2_with (first | ((with_reducible refine gate_builtin (b := .append) (xs := #[.tmp 20, .tmp 21]) rfl ?_); at_builtin; refine Kd.R_append_zeros (Kd.int .i64) (w0 := w) w.heap.size rfl (.tmp 20) (.tmp 21) 22 3 3 (.int .i64 0) 8 rfl Try.underlying22 Try.underlying3 info3 rfl (by decide) (by decide) (.slice none 0 0) ([] : List Int) 0 n (fun _ => True) rfl rfl ?aZ (fun _ _ => trivial) (Kd.R_nil _ _ _ _ _) h0 (Below.refl _ _) (Nat.le_refl _) ?aL ?_; (case aL => simp; omega); (case aZ => exact rfl); intro v1 w1 ho hb hg hat; clear hg hat; have ho1 := Aside0.mk ho; clear ho; have hb1 := Aside0.mk hb; clear hb; obtain ⟨A1, c1, e1⟩ := Kd.R_slice ho1.out; subst e1))
    go_ret
    exact ⟨_, rfl, Kd.R_take (m := 0) ho1.out (Nat.zero_le _), hb1.out⟩
def slices_Grow_int_int.f (l0 : List Int) (a1 : Int) : Option (List Int) := if l0 = [] ∧ 0 ≤ a1 ∧ a1 ≤ 17592186044415 then some [] else none
theorem slices_Grow_int_int.calls (a1 : Int) (r : List Int) (w : World) (h : slices_Grow_int_int.f [] a1 = some r) :
    Calls Try.prog 166 #[.slice none 0 0, .int .i64 a1] w fun e w' => ∃ v0_ : Value, e = .returned (v0_) ∧ Kd.R (Kd.int .i64) 3 w' w.heap.size (fun _ => True) v0_ r ∧ Below w.heap.size w w' := by
  unfold slices_Grow_int_int.f at h
  split at h
  · rename_i h1
    obtain rfl := Option.some.inj h
    exact slices_Grow_nil a1 w h1.2.1 h1.2.2
  · cases h
end Go.Proofs.Ytjaiienbbmfomaa.Giv
