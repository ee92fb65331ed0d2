import Derived.Test.YtgifhmjbmnopcaaPx0
namespace Go.Proofs.Ytgifhmjbmnopcaa.Giv
set_option linter.unusedVariables false
set_option linter.unusedSimpArgs false
open Go.RowKit Go.Proofs.YtgifhmjbmnopcaaW.PrintWords Go.Proofs.YtgifhmjbmnopcaaW.PrintLast Go.Proofs.YtgifhmjbmnopcaaW.PrintMore
def letterB (n : Int) : Bool := (n != 0) && decide (-6 ≤ n) && decide (n ≤ 6)
theorem isLetter_calls (x : Int) (w : World) : Calls Try.prog 80 #[.int .i64 x] w fun e w' => e = .returned (.bool (letterB x)) ∧ Drawn0 w w' := by
  unfold letterB
  by_cases h0 : x = 0
  · subst h0
    go_enter Try.func80, Try.ntmps80
    go_wp2
    go_ret
    exact ⟨rfl, Drawn0.refl _⟩
  · have h0b : (x != 0) = true := bne_iff_ne.mpr h0
    by_cases h1 : -6 ≤ x
    · have h1b : decide (-6 ≤ x) = true := decide_eq_true h1
      have hf : ((x != 0) && decide (-6 ≤ x) && decide (x ≤ 6)) = decide (x ≤ 6) := by rw [h0b, h1b]; rfl
      rw [hf]
      clear hf h0
      go_enter Try.func80, Try.ntmps80
      go_wp2
      go_ret
      exact ⟨rfl, Drawn0.refl _⟩
    · have h1b : decide (-6 ≤ x) = false := decide_eq_false h1
      have hf : ((x != 0) && decide (-6 ≤ x) && decide (x ≤ 6)) = false := by rw [h0b, h1b]; rfl
      rw [hf]
      clear hf h0
      go_enter Try.func80, Try.ntmps80
      go_wp2
      go_ret
      exact ⟨rfl, Drawn0.refl _⟩
theorem isWord1_calls (x : Int) (w : World) : Calls Try.prog 79 #[.int .i64 x] w fun e w' => e = .returned (.bool (!letterB x)) ∧ Drawn0 w w' := by
  go_enter Try.func79, Try.ntmps79
  go_wp2_with (first | (go_at_call 80; refine (isLetter_calls _ _).mono ?_; rintro e w' ⟨rfl, ⟨nd, rfl⟩⟩))
  go_ret
  exact ⟨rfl, by repeat (first | exact Drawn0.refl _ | apply Drawn0.step)⟩
def IdxPost (l0 : List Int) (w : World) (e : Ending) (w' : World) : Prop := ∃ i : Int, e = .returned (.int .i64 i) ∧ -1 ≤ i ∧ i ≤ 9223372036854775807 ∧ decide (0 ≤ i) = (l0.any fun x => !letterB x) ∧ Drawn0 w w'
theorem any_bad (l0 : List Int) (i : Int) (h0 : 0 ≤ i) (h1 : i < l0.length) (hb : letterB (rd l0 i) = false) : (l0.any fun x => !letterB x) = true := by
  rw [List.any_eq_true]
  refine ⟨rd l0 i, ?_, by simp [hb]⟩
  unfold rd
  rw [List.getD_eq_getElem?_getD, List.getElem?_eq_getElem (by omega)]
  exact List.getElem_mem _
theorem any_good (l0 : List Int) (i : Int) (h1 : ¬ i < l0.length) (h : ∀ j : Nat, (j : Int) < i → letterB (l0.getD j 0) = true) : (l0.any fun x => !letterB x) = false := by
  rw [List.any_eq_false]
  intro x hx
  obtain ⟨j, hj, rfl⟩ := List.getElem_of_mem hx
  have := h j (by omega)
  rw [List.getD_eq_getElem?_getD, List.getElem?_eq_getElem hj] at this
  simpa using this
theorem idx_calls (A0 : Option Addr) (c0 : Nat) (l0 : List Int) (w : World) (hr0 : Kd.C (Kd.int .i64) w A0 l0.length l0) (hl : l0.length ≤ 9223372036854775807) :
    Calls Try.prog 95 #[.slice A0 l0.length c0, .func (.func 79) #[] #[]] w (IdxPost l0 w) := by
  have HR0 := Aside0.mk hr0
  clear hr0
  go_enter Try.func95, Try.ntmps95
  go_wp2
  go_loopw [8] (fun v w' => ∃ i : Int, v = .int .i64 i ∧ 0 ≤ i ∧ i ≤ l0.length ∧ Aside0 (∀ j : Nat, (j : Int) < i → letterB (l0.getD j 0) = true) ∧ Drawn0 w w') (fun v w' => (l0.length - intOf v).toNat)
  case atStart => exact ⟨0, rfl, by omega, by omega, ⟨fun j hj => by omega⟩, Drawn0.refl _⟩
  case round =>
    obtain ⟨i, rfl, h0, h1, HA, ⟨m1, rfl⟩⟩ := hrel
    by_cases hlt : i < (l0.length : Int)
    · have hltb : decide (i < (l0.length : Int)) = true := decide_eq_true hlt
      obtain ⟨ad, e1, hx⟩ := Kd.at_int HR0.out i h0 hlt
      cases e1
      cases hb : letterB (rd l0 i) with
      | false =>
        have HF := Aside0.mk (any_bad l0 i h0 hlt hb)
        have HBad := Aside0.mk hb
        clear hb
        go_wp2_with (first | (go_at_call 79; refine (isWord1_calls _ _).mono ?_; rw [HBad.out]; rintro e w' ⟨rfl, ⟨nd, rfl⟩⟩))
        go_ret
        exact ⟨_, rfl, by omega, by omega, by rw [HF.out]; exact decide_eq_true h0, by repeat (first | exact Drawn0.refl _ | apply Drawn0.step)⟩
      | true =>
        have HBad := Aside0.mk hb
        clear hb
        have HA2 : Aside0 (∀ j : Nat, (j : Int) < i + 1 → letterB (l0.getD j 0) = true) := ⟨fun j hj => by
          by_cases hji : (j : Int) < i
          · exact HA.out j hji
          · have : j = i.toNat := by omega
            subst this
            exact HBad.out⟩
        go_wp2_with (first | (go_at_call 79; refine (isWord1_calls _ _).mono ?_; rw [HBad.out]; rintro e w' ⟨rfl, ⟨nd, rfl⟩⟩))
        go_roundw
        case measure => simp [intOf]; omega
        case rel => exact ⟨i + 1, by go_num, by omega, by omega, HA2, by repeat (first | exact Drawn0.refl _ | apply Drawn0.step)⟩
    · have HF := Aside0.mk (any_good l0 i hlt HA.out)
      have hltb : decide (i < (l0.length : Int)) = false := decide_eq_false hlt
      go_wp2
      go_ret
      exact ⟨-1, rfl, by omega, by omega, by rw [HF.out]; rfl, by repeat (first | exact Drawn0.refl _ | apply Drawn0.step)⟩
theorem contains_calls (A0 : Option Addr) (c0 : Nat) (l0 : List Int) (w : World) (hr0 : Kd.C (Kd.int .i64) w A0 l0.length l0) (hl : l0.length ≤ 9223372036854775807) :
    Calls Try.prog 78 #[.slice A0 l0.length c0, .func (.func 79) #[] #[]] w fun e w' => e = .returned (.bool (l0.any fun x => !letterB x)) ∧ Drawn0 w w' := by
  go_enter Try.func78, Try.ntmps78
  go_wp2_with (first | (go_at_call 95; refine (idx_calls A0 c0 l0 _ (by first | exact hr0 | exact Kd.C_drewN hr0 _) hl).mono ?_; rintro e w' ⟨i, rfl, h1, h2, h3, ⟨nd, rfl⟩⟩; have H3 := Aside0.mk h3; clear h3))
  go_ret
  exact ⟨by rw [← H3.out]; rfl, by repeat (first | exact Drawn0.refl _ | apply Drawn0.step)⟩
def impl_isWord.f (l0 : List Int) : Option Bool := some (decide (l0.length ≤ 64) && l0.all letterB)
theorem all_any (l0 : List Int) : l0.all letterB = !(l0.any fun x => !letterB x) := by
  induction l0 with
  | nil => rfl
  | cons x xs ih => simp [List.all_cons, List.any_cons, ih]
theorem impl_isWord.calls (A0 : Option Addr) (c0 : Nat) (l0 : List Int) (r : Bool) (w : World) (hr0 : Kd.C (Kd.int .i64) w A0 l0.length l0) (hc0 : l0.length ≤ c0) (h : impl_isWord.f l0 = some r) :
    Calls Try.prog 49 #[.slice A0 l0.length c0] w fun e w' => e = .returned (.bool r) ∧ Drawn0 w w' := by
  obtain rfl := Option.some.inj h
  clear h
  rw [all_any]
  by_cases h1 : l0.length ≤ 64
  · have h1b : decide (l0.length ≤ 64) = true := decide_eq_true h1
    have hf : (decide (l0.length ≤ 64) && !(l0.any fun x => !letterB x)) = !(l0.any fun x => !letterB x) := by rw [h1b]; rfl
    rw [hf]
    clear hf
    have h1c : decide ((l0.length : Int) ≤ 64) = true := decide_eq_true (by omega)
    go_enter Try.func49, Try.ntmps49
    go_wp2_with (first | (go_at_call 78; refine (contains_calls A0 c0 l0 _ (by first | exact hr0 | exact Kd.C_drewN hr0 _) (by omega)).mono ?_; rintro e w' ⟨rfl, ⟨nd, rfl⟩⟩))
    go_ret
    exact ⟨rfl, by repeat (first | exact Drawn0.refl _ | apply Drawn0.step)⟩
  · have h1b : decide (l0.length ≤ 64) = false := decide_eq_false h1
    have hf : (decide (l0.length ≤ 64) && !(l0.any fun x => !letterB x)) = false := by rw [h1b]; rfl
    rw [hf]
    clear hf
    have h1c : decide ((l0.length : Int) ≤ 64) = false := decide_eq_false (by omega)
    go_enter Try.func49, Try.ntmps49
    go_wp2
    go_ret
    exact ⟨rfl, by repeat (first | exact Drawn0.refl _ | apply Drawn0.step)⟩
end Go.Proofs.Ytgifhmjbmnopcaa.Giv
