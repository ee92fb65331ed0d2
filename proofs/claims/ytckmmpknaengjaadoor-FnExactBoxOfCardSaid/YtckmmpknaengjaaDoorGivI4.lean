import Derived.Test.YtckmmpknaengjaaDoorPx0
namespace Go.Proofs.YtckmmpknaengjaaDoor.Giv
set_option linter.unusedVariables false
set_option linter.unusedSimpArgs false
open Go.RowKit Go.Proofs.YtckmmpknaengjaaDoorW.PrintWords Go.Proofs.YtckmmpknaengjaaDoorW.PrintLast Go.Proofs.YtckmmpknaengjaaDoorW.PrintMore
theorem below_two4 {w : World} {o1 o2 : Obj} (n : Nat) : Below w.heap.size w (((w.alloc o1).alloc o2).drewN n) :=
  (((Below.refl _ _).alloc (Nat.le_refl _) _).alloc (by simp) _).trans ⟨rfl, rfl, rfl, Nat.le_refl _, fun _ _ => rfl⟩
theorem eqIntA4_calls (a0_0 : Int) (a0_1 : Int) (a0_2 : Int) (a0_3 : Int) (a1_0 : Int) (a1_1 : Int) (a1_2 : Int) (a1_3 : Int) (w : World) :
    Calls Tryd.prog 25 #[.agg #[.int .i64 a0_0, .int .i64 a0_1, .int .i64 a0_2, .int .i64 a0_3], .agg #[.int .i64 a1_0, .int .i64 a1_1, .int .i64 a1_2, .int .i64 a1_3]] w fun e w' => e = .returned (.bool (decide (a0_0 = a1_0) && (decide (a0_1 = a1_1) && (decide (a0_2 = a1_2) && decide (a0_3 = a1_3))))) ∧ Below w.heap.size w w' := by
  have hu := Tryd.underlying32
  go_enter Tryd.func25, Tryd.ntmps25
  go_wp2
  go_loopw [5] (fun v w' => ∃ i : Int, v = .int .i64 i ∧ Aside0 ((i = 0) ∨ (i = 1 ∧ a0_0 = a1_0) ∨ (i = 2 ∧ a0_0 = a1_0 ∧ a0_1 = a1_1) ∨ (i = 3 ∧ a0_0 = a1_0 ∧ a0_1 = a1_1 ∧ a0_2 = a1_2) ∨ (i = 4 ∧ a0_0 = a1_0 ∧ a0_1 = a1_1 ∧ a0_2 = a1_2 ∧ a0_3 = a1_3)) ∧ Drawn0 (((w.alloc (.cells #[.int .i64 a0_0, .int .i64 a0_1, .int .i64 a0_2, .int .i64 a0_3] 32)).alloc (.cells #[.int .i64 a1_0, .int .i64 a1_1, .int .i64 a1_2, .int .i64 a1_3] 32))) w') (fun v w' => (4 - intOf v).toNat)
  case atStart => exact ⟨0, rfl, ⟨Or.inl rfl⟩, Drawn0.refl _⟩
  case round =>
    obtain ⟨i, rfl, ⟨hi⟩, ⟨m1, rfl⟩⟩ := hrel
    rcases hi with rfl | ⟨rfl, h0⟩ | ⟨rfl, h0, h1⟩ | ⟨rfl, h0, h1, h2⟩ | ⟨rfl, h0, h1, h2, h3⟩
    · cases hb : (a0_0 != a1_0) with
      | false =>
        have HE := Aside0.mk (show a0_0 = a1_0 by simpa using hb)
        go_wp2
        go_region
        go_wp2
        go_roundw
        case measure => simp [intOf]
        case rel => exact ⟨1, rfl, ⟨Or.inr (Or.inl (⟨rfl, HE.out⟩))⟩, ⟨_, rfl⟩⟩
      | true =>
        have HE := Aside0.mk (show ¬ a0_0 = a1_0 by simpa using hb)
        go_wp2
        go_region
        go_wp2
        go_ret
        exact ⟨by rw [decide_eq_false HE.out]; simp, below_two4 _⟩
    · have HS := Aside0.mk h0
      clear h0
      cases hb : (a0_1 != a1_1) with
      | false =>
        have HE := Aside0.mk (show a0_1 = a1_1 by simpa using hb)
        go_wp2
        go_region
        go_wp2
        go_roundw
        case measure => simp [intOf]
        case rel => exact ⟨2, rfl, ⟨Or.inr (Or.inr (Or.inl (⟨rfl, HS.out, HE.out⟩)))⟩, ⟨_, rfl⟩⟩
      | true =>
        have HE := Aside0.mk (show ¬ a0_1 = a1_1 by simpa using hb)
        go_wp2
        go_region
        go_wp2
        go_ret
        exact ⟨by rw [decide_eq_false HE.out]; simp, below_two4 _⟩
    · have HS := Aside0.mk (show a0_0 = a1_0 ∧ a0_1 = a1_1 from ⟨h0, h1⟩)
      clear h0 h1
      cases hb : (a0_2 != a1_2) with
      | false =>
        have HE := Aside0.mk (show a0_2 = a1_2 by simpa using hb)
        go_wp2
        go_region
        go_wp2
        go_roundw
        case measure => simp [intOf]
        case rel => exact ⟨3, rfl, ⟨Or.inr (Or.inr (Or.inr (Or.inl (⟨rfl, HS.out.1, HS.out.2, HE.out⟩))))⟩, ⟨_, rfl⟩⟩
      | true =>
        have HE := Aside0.mk (show ¬ a0_2 = a1_2 by simpa using hb)
        go_wp2
        go_region
        go_wp2
        go_ret
        exact ⟨by rw [decide_eq_false HE.out]; simp, below_two4 _⟩
    · have HS := Aside0.mk (show a0_0 = a1_0 ∧ a0_1 = a1_1 ∧ a0_2 = a1_2 from ⟨h0, h1, h2⟩)
      clear h0 h1 h2
      cases hb : (a0_3 != a1_3) with
      | false =>
        have HE := Aside0.mk (show a0_3 = a1_3 by simpa using hb)
        go_wp2
        go_region
        go_wp2
        go_roundw
        case measure => simp [intOf]
        case rel => exact ⟨4, rfl, ⟨Or.inr (Or.inr (Or.inr (Or.inr (⟨rfl, HS.out.1, HS.out.2.1, HS.out.2.2, HE.out⟩))))⟩, ⟨_, rfl⟩⟩
      | true =>
        have HE := Aside0.mk (show ¬ a0_3 = a1_3 by simpa using hb)
        go_wp2
        go_region
        go_wp2
        go_ret
        exact ⟨by rw [decide_eq_false HE.out]; simp, below_two4 _⟩
    · have HS := Aside0.mk (show a0_0 = a1_0 ∧ a0_1 = a1_1 ∧ a0_2 = a1_2 ∧ a0_3 = a1_3 from ⟨h0, h1, h2, h3⟩)
      clear h0 h1 h2 h3
      go_wp2
      go_ret
      exact ⟨by rw [decide_eq_true HS.out.1, decide_eq_true HS.out.2.1, decide_eq_true HS.out.2.2.1, decide_eq_true HS.out.2.2.2]; rfl, below_two4 _⟩
def laws_eqIntA4.f (a0_0 : Int) (a0_1 : Int) (a0_2 : Int) (a0_3 : Int) (a1_0 : Int) (a1_1 : Int) (a1_2 : Int) (a1_3 : Int) : Option Bool := some (decide (a0_0 = a1_0) && (decide (a0_1 = a1_1) && (decide (a0_2 = a1_2) && decide (a0_3 = a1_3))))
theorem laws_eqIntA4.calls (a0_0 : Int) (a0_1 : Int) (a0_2 : Int) (a0_3 : Int) (a1_0 : Int) (a1_1 : Int) (a1_2 : Int) (a1_3 : Int) (r : Bool) (w : World) (h : laws_eqIntA4.f a0_0 a0_1 a0_2 a0_3 a1_0 a1_1 a1_2 a1_3 = some r) :
    Calls Tryd.prog 25 #[.agg #[.int .i64 a0_0, .int .i64 a0_1, .int .i64 a0_2, .int .i64 a0_3], .agg #[.int .i64 a1_0, .int .i64 a1_1, .int .i64 a1_2, .int .i64 a1_3]] w fun e w' => e = .returned (.bool r) ∧ Below w.heap.size w w' := by
  obtain rfl := Option.some.inj h
  exact eqIntA4_calls a0_0 a0_1 a0_2 a0_3 a1_0 a1_1 a1_2 a1_3 w
end Go.Proofs.YtckmmpknaengjaaDoor.Giv
