import Derived.Test.YtckmmpknaengjaaDoorPx0
namespace Go.Proofs.YtckmmpknaengjaaDoor.Giv
set_option linter.unusedVariables false
set_option linter.unusedSimpArgs false
open Go.RowKit Go.Proofs.YtckmmpknaengjaaDoorW.PrintWords Go.Proofs.YtckmmpknaengjaaDoorW.PrintLast Go.Proofs.YtckmmpknaengjaaDoorW.PrintMore
theorem below_two {w : World} {o1 o2 : Obj} (n : Nat) : Below w.heap.size w (((w.alloc o1).alloc o2).drewN n) :=
  (((Below.refl _ _).alloc (Nat.le_refl _) _).alloc (by simp) _).trans ⟨rfl, rfl, rfl, Nat.le_refl _, fun _ _ => rfl⟩
theorem eqIntA2_calls (a0_0 : Int) (a0_1 : Int) (a1_0 : Int) (a1_1 : Int) (w : World) :
    Calls Tryd.prog 18 #[.agg #[.int .i64 a0_0, .int .i64 a0_1], .agg #[.int .i64 a1_0, .int .i64 a1_1]] w fun e w' => e = .returned (.bool (decide (a0_0 = a1_0) && decide (a0_1 = a1_1))) ∧ Below w.heap.size w w' := by
  have hu := Tryd.underlying23
  go_enter Tryd.func18, Tryd.ntmps18
  go_wp2
  go_loopw [5] (fun v w' => ∃ i : Int, v = .int .i64 i ∧ Aside0 (i = 0 ∨ (i = 1 ∧ a0_0 = a1_0) ∨ (i = 2 ∧ a0_0 = a1_0 ∧ a0_1 = a1_1)) ∧ Drawn0 (((w.alloc (.cells #[.int .i64 a0_0, .int .i64 a0_1] 23)).alloc (.cells #[.int .i64 a1_0, .int .i64 a1_1] 23))) w') (fun v w' => (2 - intOf v).toNat)
  case atStart => exact ⟨0, rfl, ⟨Or.inl rfl⟩, Drawn0.refl _⟩
  case round =>
    obtain ⟨i, rfl, ⟨hi⟩, ⟨m1, rfl⟩⟩ := hrel
    rcases hi with rfl | ⟨rfl, h0⟩ | ⟨rfl, h0, h1⟩
    · cases hb : (a0_0 != a1_0) with
      | false =>
        have HE := Aside0.mk (show a0_0 = a1_0 by simpa using hb)
        go_wp2
        go_region
        go_wp2
        go_roundw
        case measure => simp [intOf]
        case rel => exact ⟨1, rfl, ⟨Or.inr (Or.inl ⟨rfl, HE.out⟩)⟩, ⟨_, rfl⟩⟩
      | true =>
        have HE := Aside0.mk (show ¬ a0_0 = a1_0 by simpa using hb)
        go_wp2
        go_region
        go_wp2
        go_ret
        exact ⟨by rw [decide_eq_false HE.out]; rfl, below_two _⟩
    · have HE0 := Aside0.mk h0
      clear h0
      cases hb : (a0_1 != a1_1) with
      | false =>
        have HE := Aside0.mk (show a0_1 = a1_1 by simpa using hb)
        go_wp2
        go_region
        go_wp2
        go_roundw
        case measure => simp [intOf]
        case rel => exact ⟨2, rfl, ⟨Or.inr (Or.inr ⟨rfl, HE0.out, HE.out⟩)⟩, ⟨_, rfl⟩⟩
      | true =>
        have HE := Aside0.mk (show ¬ a0_1 = a1_1 by simpa using hb)
        go_wp2
        go_region
        go_wp2
        go_ret
        exact ⟨by rw [decide_eq_false HE.out, Bool.and_false]; rfl, below_two _⟩
    · have HE0 := Aside0.mk h0
      have HE1 := Aside0.mk h1
      clear h0 h1
      go_wp2
      go_ret
      exact ⟨by rw [decide_eq_true HE0.out, decide_eq_true HE1.out]; rfl, below_two _⟩
def laws_eqIntA2.f (a0_0 : Int) (a0_1 : Int) (a1_0 : Int) (a1_1 : Int) : Option Bool := some (decide (a0_0 = a1_0) && decide (a0_1 = a1_1))
theorem laws_eqIntA2.calls (a0_0 : Int) (a0_1 : Int) (a1_0 : Int) (a1_1 : Int) (r : Bool) (w : World) (h : laws_eqIntA2.f a0_0 a0_1 a1_0 a1_1 = some r) :
    Calls Tryd.prog 18 #[.agg #[.int .i64 a0_0, .int .i64 a0_1], .agg #[.int .i64 a1_0, .int .i64 a1_1]] w fun e w' => e = .returned (.bool r) ∧ Below w.heap.size w w' := by
  obtain rfl := Option.some.inj h
  exact eqIntA2_calls a0_0 a0_1 a1_0 a1_1 w
end Go.Proofs.YtckmmpknaengjaaDoor.Giv
