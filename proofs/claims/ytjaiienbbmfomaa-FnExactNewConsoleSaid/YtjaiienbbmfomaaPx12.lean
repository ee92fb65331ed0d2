-- Written by gprint.py (wip/gprint.py of this repo), out of the translation. Not trusted: Lean checks it.
import Derived.Test.YtjaiienbbmfomaaPx0
import Derived.Test.YtjaiienbbmfomaaPx1
import Derived.Test.YtjaiienbbmfomaaPx5
import Derived.Test.YtjaiienbbmfomaaPx7
import Derived.Test.YtjaiienbbmfomaaPx8
import Derived.Test.YtjaiienbbmfomaaPx11
namespace Go.Proofs.Ytjaiienbbmfomaa.Px
end Go.Proofs.Ytjaiienbbmfomaa.Px
namespace Go.Proofs.Ytjaiienbbmfomaa.Giv
end Go.Proofs.Ytjaiienbbmfomaa.Giv
namespace Go.Proofs.Ytjaiienbbmfomaa.Px
open Go.Proofs.Ytjaiienbbmfomaa.Giv
open Go.RowKit Go.Proofs.YtjaiienbbmfomaaW.PrintWords Go.Proofs.YtjaiienbbmfomaaW.PrintLast Go.Proofs.YtjaiienbbmfomaaW.PrintMore
attribute [local go_sem] max2_int min2_int max_two min_two max_three min_three max_four min_four   -- for this text's walks alone
set_option linter.unusedVariables false
set_option linter.unusedSimpArgs false

/-! ### laws_FnExactNewConsole: function 5 -/
mutual
def laws_FnExactNewConsole.j0 : Nat → Bool → Bool → Bool → List Int → Int → Int → List Int → Int → Int → ByteArray → ByteArray → Int → List Int → Int → Int → List Int → Int → Int → ByteArray → ByteArray → Int → Option (Bool)
  | 0, _, _, _, _, _, _, _, _, _, _, _, _, _, _, _, _, _, _, _, _, _ => none
  | k + 1, x5, x8, x40, x288000, x288001, x288002, x304000, x304001, x304002, x304003, x304004, x304005, x310000, x310001, x310002, x320000, x320001, x320002, x320003, x320004, x320005 => if x40 = true then (some false) else ((laws_toGallery.f k x288000 x288001 x288002).bind fun bt321 => ((laws_eqGallery.f k x310000 x310001 x310002 bt321.1 bt321.2.1 bt321.2.2).bind fun t326 => (if t326 = true then ((laws_markGallery.f k x310000 x310001 x310002 1).bind fun bt327 => (if bt327.1 < 0 then (laws_FnExactNewConsole.j1 k x5 true x288000 x288001 x288002 x304000 x304001 x304002 x304003 x304004 x304005 x320000 x320001 x320002 x320003 x320004 x320005) else ((laws_eqConsole.f k x320000 x320001 x320002 x320003 x320004 x320005 x304000 x304001 x304002 x304003 x304004 x304005).bind fun t329 => (if t329 = true then (laws_FnExactNewConsole.j1 k x5 (x8 != x5) x288000 x288001 x288002 x304000 x304001 x304002 x304003 x304004 x304005 x320000 x320001 x320002 x320003 x320004 x320005) else (laws_FnExactNewConsole.j1 k x5 true x288000 x288001 x288002 x304000 x304001 x304002 x304003 x304004 x304005 x320000 x320001 x320002 x320003 x320004 x320005))))) else (some false))))
def laws_FnExactNewConsole.j1 : Nat → Bool → Bool → List Int → Int → Int → List Int → Int → Int → ByteArray → ByteArray → Int → List Int → Int → Int → ByteArray → ByteArray → Int → Option (Bool)
  | 0, _, _, _, _, _, _, _, _, _, _, _, _, _, _, _, _, _ => none
  | k + 1, x5, x61, x288000, x288001, x288002, x304000, x304001, x304002, x304003, x304004, x304005, x320000, x320001, x320002, x320003, x320004, x320005 => if x61 = true then (some false) else ((laws_markConsole.f k x320000 x320001 x320002 x320003 x320004 x320005 1).bind fun bt330 => ((laws_heldConsole.f k bt330.2 x320001 x320002 x320003 x320004 x320005 1).bind fun t332 => (if t332 < 0 then (some false) else (if t332 = bt330.1 then ((laws_toGallery.f k x288000 x288001 x288002).bind fun bt333 => ((impl_NewConsole.f k bt333.1 bt333.2.1 bt333.2.2).bind fun bt338 => ((laws_eqConsole.f k bt338.1 bt338.2.1 bt338.2.2.1 bt338.2.2.2.1 bt338.2.2.2.2.1 bt338.2.2.2.2.2.1 x304000 x304001 x304002 x304003 x304004 x304005).bind fun t348 => (if t348 = true then (laws_FnExactNewConsole.j2 k bt330.1 (bt338.2.2.2.2.2.2 != x5) bt330.2 x320001 x320002 x320003 x320004 x320005) else (laws_FnExactNewConsole.j2 k bt330.1 true bt330.2 x320001 x320002 x320003 x320004 x320005))))) else (some false)))))
def laws_FnExactNewConsole.j2 : Nat → Int → Bool → List Int → Int → Int → ByteArray → ByteArray → Int → Option (Bool)
  | 0, _, _, _, _, _, _, _, _ => none
  | k + 1, x10, x87, x320000, x320001, x320002, x320003, x320004, x320005 => if x87 = true then (some false) else ((laws_heldConsole.f k x320000 x320001 x320002 x320003 x320004 x320005 1).bind fun t349 => (if t349 < 0 then (some false) else (if t349 = x10 then (some true) else (some false))))
end
def laws_FnExactNewConsole.f (k : Nat) (l0_0 : List Int) (a0_1 : Int) (a0_2 : Int) : Option (Bool) := (laws_szGallery.f l0_0 a0_1 a0_2 1048576).bind fun t288 => (if t288 < 0 then (some true) else ((laws_toGallery.f k l0_0 a0_1 a0_2).bind fun bt289 => ((spec_NewConsole.f k bt289.1 bt289.2.1 bt289.2.2).bind fun bt294 => ((laws_toGallery.f k l0_0 a0_1 a0_2).bind fun bt304 => ((impl_NewConsole.f k bt304.1 bt304.2.1 bt304.2.2).bind fun bt310 => ((laws_eqConsole.f k bt310.1 bt310.2.1 bt310.2.2.1 bt310.2.2.2.1 bt310.2.2.2.2.1 bt310.2.2.2.2.2.1 bt294.1 bt294.2.1 bt294.2.2.1 bt294.2.2.2.1 bt294.2.2.2.2.1 bt294.2.2.2.2.2.1).bind fun t320 => (if t320 = true then (laws_FnExactNewConsole.j0 k bt294.2.2.2.2.2.2 bt310.2.2.2.2.2.2 (bt310.2.2.2.2.2.2 != bt294.2.2.2.2.2.2) l0_0 a0_1 a0_2 bt294.1 bt294.2.1 bt294.2.2.1 bt294.2.2.2.1 bt294.2.2.2.2.1 bt294.2.2.2.2.2.1 bt304.1 bt304.2.1 bt304.2.2 bt310.1 bt310.2.1 bt310.2.2.1 bt310.2.2.2.1 bt310.2.2.2.2.1 bt310.2.2.2.2.2.1) else (laws_FnExactNewConsole.j0 k bt294.2.2.2.2.2.2 bt310.2.2.2.2.2.2 true l0_0 a0_1 a0_2 bt294.1 bt294.2.1 bt294.2.2.1 bt294.2.2.2.1 bt294.2.2.2.2.1 bt294.2.2.2.2.2.1 bt304.1 bt304.2.1 bt304.2.2 bt310.1 bt310.2.1 bt310.2.2.1 bt310.2.2.2.1 bt310.2.2.2.2.1 bt310.2.2.2.2.2.1))))))))
theorem laws_FnExactNewConsole.mono_l : ∀ k, (∀ y0 y1 y2 y3 y4 y5 y6 y7 y8 y9 y10 y11 y12 y13 y14 y15 y16 y17 y18 y19 y20, LeO (laws_FnExactNewConsole.j0 k y0 y1 y2 y3 y4 y5 y6 y7 y8 y9 y10 y11 y12 y13 y14 y15 y16 y17 y18 y19 y20) (laws_FnExactNewConsole.j0 (k + 1) y0 y1 y2 y3 y4 y5 y6 y7 y8 y9 y10 y11 y12 y13 y14 y15 y16 y17 y18 y19 y20)) ∧ (∀ y0 y1 y2 y3 y4 y5 y6 y7 y8 y9 y10 y11 y12 y13 y14 y15 y16, LeO (laws_FnExactNewConsole.j1 k y0 y1 y2 y3 y4 y5 y6 y7 y8 y9 y10 y11 y12 y13 y14 y15 y16) (laws_FnExactNewConsole.j1 (k + 1) y0 y1 y2 y3 y4 y5 y6 y7 y8 y9 y10 y11 y12 y13 y14 y15 y16)) ∧ (∀ y0 y1 y2 y3 y4 y5 y6 y7, LeO (laws_FnExactNewConsole.j2 k y0 y1 y2 y3 y4 y5 y6 y7) (laws_FnExactNewConsole.j2 (k + 1) y0 y1 y2 y3 y4 y5 y6 y7))
  | 0 => ⟨fun _ _ _ _ _ _ _ _ _ _ _ _ _ _ _ _ _ _ _ _ _ r h => by simp [laws_FnExactNewConsole.j0] at h, fun _ _ _ _ _ _ _ _ _ _ _ _ _ _ _ _ _ r h => by simp [laws_FnExactNewConsole.j1] at h, fun _ _ _ _ _ _ _ _ r h => by simp [laws_FnExactNewConsole.j2] at h⟩
  | k + 1 => by
    obtain ⟨ih0, ih1, ih2⟩ := laws_FnExactNewConsole.mono_l k
    refine ⟨?_, ?_, ?_⟩
    · intro y0 y1 y2 y3 y4 y5 y6 y7 y8 y9 y10 y11 y12 y13 y14 y15 y16 y17 y18 y19 y20
      unfold laws_FnExactNewConsole.j0
      repeat' first
      | (with_reducible exact ih0 _ _ _ _ _ _ _ _ _ _ _ _ _ _ _ _ _ _ _ _ _)
      | (with_reducible exact ih1 _ _ _ _ _ _ _ _ _ _ _ _ _ _ _ _ _)
      | (with_reducible exact ih2 _ _ _ _ _ _ _ _)
      | (with_reducible exact impl_NewConsole.mono _ _ _ _)
      | (with_reducible exact laws_eqConsole.mono _ _ _ _ _ _ _ _ _ _ _ _ _)
      | (with_reducible exact laws_eqGallery.mono _ _ _ _ _ _ _)
      | (with_reducible exact laws_heldConsole.mono _ _ _ _ _ _ _ _)
      | (with_reducible exact laws_markConsole.mono _ _ _ _ _ _ _ _)
      | (with_reducible exact laws_markGallery.mono _ _ _ _ _)
      | (with_reducible exact laws_toGallery.mono _ _ _ _)
      | (with_reducible exact spec_NewConsole.mono _ _ _ _)
      | (with_reducible exact LeO.refl _)
      | (with_reducible exact LeO.none _)
      | (with_reducible refine LeO.ite ?_ ?_)
      | (with_reducible refine LeO.bind ?_ (fun _ => ?_))
      | exact ih0 _ _ _ _ _ _ _ _ _ _ _ _ _ _ _ _ _ _ _ _ _
      | exact ih1 _ _ _ _ _ _ _ _ _ _ _ _ _ _ _ _ _
      | exact ih2 _ _ _ _ _ _ _ _
      | exact impl_NewConsole.mono _ _ _ _
      | exact laws_eqConsole.mono _ _ _ _ _ _ _ _ _ _ _ _ _
      | exact laws_eqGallery.mono _ _ _ _ _ _ _
      | exact laws_heldConsole.mono _ _ _ _ _ _ _ _
      | exact laws_markConsole.mono _ _ _ _ _ _ _ _
      | exact laws_markGallery.mono _ _ _ _ _
      | exact laws_toGallery.mono _ _ _ _
      | exact spec_NewConsole.mono _ _ _ _
      | exact LeO.none _
      | refine LeO.ite ?_ ?_
      | refine LeO.bind ?_ (fun _ => ?_)
    · intro y0 y1 y2 y3 y4 y5 y6 y7 y8 y9 y10 y11 y12 y13 y14 y15 y16
      unfold laws_FnExactNewConsole.j1
      repeat' first
      | (with_reducible exact ih0 _ _ _ _ _ _ _ _ _ _ _ _ _ _ _ _ _ _ _ _ _)
      | (with_reducible exact ih1 _ _ _ _ _ _ _ _ _ _ _ _ _ _ _ _ _)
      | (with_reducible exact ih2 _ _ _ _ _ _ _ _)
      | (with_reducible exact impl_NewConsole.mono _ _ _ _)
      | (with_reducible exact laws_eqConsole.mono _ _ _ _ _ _ _ _ _ _ _ _ _)
      | (with_reducible exact laws_eqGallery.mono _ _ _ _ _ _ _)
      | (with_reducible exact laws_heldConsole.mono _ _ _ _ _ _ _ _)
      | (with_reducible exact laws_markConsole.mono _ _ _ _ _ _ _ _)
      | (with_reducible exact laws_markGallery.mono _ _ _ _ _)
      | (with_reducible exact laws_toGallery.mono _ _ _ _)
      | (with_reducible exact spec_NewConsole.mono _ _ _ _)
      | (with_reducible exact LeO.refl _)
      | (with_reducible exact LeO.none _)
      | (with_reducible refine LeO.ite ?_ ?_)
      | (with_reducible refine LeO.bind ?_ (fun _ => ?_))
      | exact ih0 _ _ _ _ _ _ _ _ _ _ _ _ _ _ _ _ _ _ _ _ _
      | exact ih1 _ _ _ _ _ _ _ _ _ _ _ _ _ _ _ _ _
      | exact ih2 _ _ _ _ _ _ _ _
      | exact impl_NewConsole.mono _ _ _ _
      | exact laws_eqConsole.mono _ _ _ _ _ _ _ _ _ _ _ _ _
      | exact laws_eqGallery.mono _ _ _ _ _ _ _
      | exact laws_heldConsole.mono _ _ _ _ _ _ _ _
      | exact laws_markConsole.mono _ _ _ _ _ _ _ _
      | exact laws_markGallery.mono _ _ _ _ _
      | exact laws_toGallery.mono _ _ _ _
      | exact spec_NewConsole.mono _ _ _ _
      | exact LeO.none _
      | refine LeO.ite ?_ ?_
      | refine LeO.bind ?_ (fun _ => ?_)
    · intro y0 y1 y2 y3 y4 y5 y6 y7
      unfold laws_FnExactNewConsole.j2
      repeat' first
      | (with_reducible exact ih0 _ _ _ _ _ _ _ _ _ _ _ _ _ _ _ _ _ _ _ _ _)
      | (with_reducible exact ih1 _ _ _ _ _ _ _ _ _ _ _ _ _ _ _ _ _)
      | (with_reducible exact ih2 _ _ _ _ _ _ _ _)
      | (with_reducible exact impl_NewConsole.mono _ _ _ _)
      | (with_reducible exact laws_eqConsole.mono _ _ _ _ _ _ _ _ _ _ _ _ _)
      | (with_reducible exact laws_eqGallery.mono _ _ _ _ _ _ _)
      | (with_reducible exact laws_heldConsole.mono _ _ _ _ _ _ _ _)
      | (with_reducible exact laws_markConsole.mono _ _ _ _ _ _ _ _)
      | (with_reducible exact laws_markGallery.mono _ _ _ _ _)
      | (with_reducible exact laws_toGallery.mono _ _ _ _)
      | (with_reducible exact spec_NewConsole.mono _ _ _ _)
      | (with_reducible exact LeO.refl _)
      | (with_reducible exact LeO.none _)
      | (with_reducible refine LeO.ite ?_ ?_)
      | (with_reducible refine LeO.bind ?_ (fun _ => ?_))
      | exact ih0 _ _ _ _ _ _ _ _ _ _ _ _ _ _ _ _ _ _ _ _ _
      | exact ih1 _ _ _ _ _ _ _ _ _ _ _ _ _ _ _ _ _
      | exact ih2 _ _ _ _ _ _ _ _
      | exact impl_NewConsole.mono _ _ _ _
      | exact laws_eqConsole.mono _ _ _ _ _ _ _ _ _ _ _ _ _
      | exact laws_eqGallery.mono _ _ _ _ _ _ _
      | exact laws_heldConsole.mono _ _ _ _ _ _ _ _
      | exact laws_markConsole.mono _ _ _ _ _ _ _ _
      | exact laws_markGallery.mono _ _ _ _ _
      | exact laws_toGallery.mono _ _ _ _
      | exact spec_NewConsole.mono _ _ _ _
      | exact LeO.none _
      | refine LeO.ite ?_ ?_
      | refine LeO.bind ?_ (fun _ => ?_)
theorem laws_FnExactNewConsole.mono : ∀ a0 a1 a2 k, LeO (laws_FnExactNewConsole.f k a0 a1 a2) (laws_FnExactNewConsole.f (k + 1) a0 a1 a2) := by
  intro a0 a1 a2 k
  obtain ⟨ih0, ih1, ih2⟩ := laws_FnExactNewConsole.mono_l k
  unfold laws_FnExactNewConsole.f
  repeat' first
      | (with_reducible exact ih0 _ _ _ _ _ _ _ _ _ _ _ _ _ _ _ _ _ _ _ _ _)
      | (with_reducible exact ih1 _ _ _ _ _ _ _ _ _ _ _ _ _ _ _ _ _)
      | (with_reducible exact ih2 _ _ _ _ _ _ _ _)
      | (with_reducible exact impl_NewConsole.mono _ _ _ _)
      | (with_reducible exact laws_eqConsole.mono _ _ _ _ _ _ _ _ _ _ _ _ _)
      | (with_reducible exact laws_eqGallery.mono _ _ _ _ _ _ _)
      | (with_reducible exact laws_heldConsole.mono _ _ _ _ _ _ _ _)
      | (with_reducible exact laws_markConsole.mono _ _ _ _ _ _ _ _)
      | (with_reducible exact laws_markGallery.mono _ _ _ _ _)
      | (with_reducible exact laws_toGallery.mono _ _ _ _)
      | (with_reducible exact spec_NewConsole.mono _ _ _ _)
      | (with_reducible exact LeO.refl _)
      | (with_reducible exact LeO.none _)
      | (with_reducible refine LeO.ite ?_ ?_)
      | (with_reducible refine LeO.bind ?_ (fun _ => ?_))
      | exact ih0 _ _ _ _ _ _ _ _ _ _ _ _ _ _ _ _ _ _ _ _ _
      | exact ih1 _ _ _ _ _ _ _ _ _ _ _ _ _ _ _ _ _
      | exact ih2 _ _ _ _ _ _ _ _
      | exact impl_NewConsole.mono _ _ _ _
      | exact laws_eqConsole.mono _ _ _ _ _ _ _ _ _ _ _ _ _
      | exact laws_eqGallery.mono _ _ _ _ _ _ _
      | exact laws_heldConsole.mono _ _ _ _ _ _ _ _
      | exact laws_markConsole.mono _ _ _ _ _ _ _ _
      | exact laws_markGallery.mono _ _ _ _ _
      | exact laws_toGallery.mono _ _ _ _
      | exact spec_NewConsole.mono _ _ _ _
      | exact LeO.none _
      | refine LeO.ite ?_ ?_
      | refine LeO.bind ?_ (fun _ => ?_)
set_option maxHeartbeats 8000000 in
set_option maxRecDepth 100000 in
theorem laws_FnExactNewConsole.calls (k : Nat) (A0_0 : Option Addr) (c0_0 : Nat) (l0_0 : List Int) (a0_1 : Int) (a0_2 : Int) (r : Bool) (w : World) (hr0_0 : Kd.C (Kd.int .i64) w A0_0 l0_0.length l0_0) (hc0_0 : l0_0.length ≤ c0_0) (h : laws_FnExactNewConsole.f k l0_0 a0_1 a0_2 = some r) :
    Calls Try.prog 5 #[.agg #[.slice A0_0 l0_0.length c0_0, .int .i64 a0_1, .int .i64 a0_2]] w fun e w' => e = .returned (.bool r) ∧ Below w.heap.size w w' := by
  have hu24 := Try.underlying24
  have hu41 := Try.underlying41
  have hu27 := Try.underlying27
  have HR0_0 := Aside0.mk hr0_0
  have HC0_0 := Aside0.mk hc0_0
  clear hr0_0 hc0_0
  have HB := Aside0.mk (Below.refl w.heap.size w)
  have H : ((laws_szGallery.f l0_0 a0_1 a0_2 1048576).bind fun t288 => (if t288 < 0 then (some true) else ((laws_toGallery.f k l0_0 a0_1 a0_2).bind fun bt289 => ((spec_NewConsole.f k bt289.1 bt289.2.1 bt289.2.2).bind fun bt294 => ((laws_toGallery.f k l0_0 a0_1 a0_2).bind fun bt304 => ((impl_NewConsole.f k bt304.1 bt304.2.1 bt304.2.2).bind fun bt310 => ((laws_eqConsole.f k bt310.1 bt310.2.1 bt310.2.2.1 bt310.2.2.2.1 bt310.2.2.2.2.1 bt310.2.2.2.2.2.1 bt294.1 bt294.2.1 bt294.2.2.1 bt294.2.2.2.1 bt294.2.2.2.2.1 bt294.2.2.2.2.2.1).bind fun t320 => (if t320 = true then (laws_FnExactNewConsole.j0 k bt294.2.2.2.2.2.2 bt310.2.2.2.2.2.2 (bt310.2.2.2.2.2.2 != bt294.2.2.2.2.2.2) l0_0 a0_1 a0_2 bt294.1 bt294.2.1 bt294.2.2.1 bt294.2.2.2.1 bt294.2.2.2.2.1 bt294.2.2.2.2.2.1 bt304.1 bt304.2.1 bt304.2.2 bt310.1 bt310.2.1 bt310.2.2.1 bt310.2.2.2.1 bt310.2.2.2.2.1 bt310.2.2.2.2.2.1) else (laws_FnExactNewConsole.j0 k bt294.2.2.2.2.2.2 bt310.2.2.2.2.2.2 true l0_0 a0_1 a0_2 bt294.1 bt294.2.1 bt294.2.2.1 bt294.2.2.2.1 bt294.2.2.2.2.1 bt294.2.2.2.2.2.1 bt304.1 bt304.2.1 bt304.2.2 bt310.1 bt310.2.1 bt310.2.2.1 bt310.2.2.2.1 bt310.2.2.2.2.1 bt310.2.2.2.2.2.1))))))))) = some r := h
  clear h
  replace H := Option.bind_eq_some_iff.mp H
  obtain ⟨t288, A20, H⟩ := H
  replace H : (if t288 < 0 then (some true) else ((laws_toGallery.f k l0_0 a0_1 a0_2).bind fun bt289 => ((spec_NewConsole.f k bt289.1 bt289.2.1 bt289.2.2).bind fun bt294 => ((laws_toGallery.f k l0_0 a0_1 a0_2).bind fun bt304 => ((impl_NewConsole.f k bt304.1 bt304.2.1 bt304.2.2).bind fun bt310 => ((laws_eqConsole.f k bt310.1 bt310.2.1 bt310.2.2.1 bt310.2.2.2.1 bt310.2.2.2.2.1 bt310.2.2.2.2.2.1 bt294.1 bt294.2.1 bt294.2.2.1 bt294.2.2.2.1 bt294.2.2.2.2.1 bt294.2.2.2.2.2.1).bind fun t320 => (if t320 = true then (laws_FnExactNewConsole.j0 k bt294.2.2.2.2.2.2 bt310.2.2.2.2.2.2 (bt310.2.2.2.2.2.2 != bt294.2.2.2.2.2.2) l0_0 a0_1 a0_2 bt294.1 bt294.2.1 bt294.2.2.1 bt294.2.2.2.1 bt294.2.2.2.2.1 bt294.2.2.2.2.2.1 bt304.1 bt304.2.1 bt304.2.2 bt310.1 bt310.2.1 bt310.2.2.1 bt310.2.2.2.1 bt310.2.2.2.2.1 bt310.2.2.2.2.2.1) else (laws_FnExactNewConsole.j0 k bt294.2.2.2.2.2.2 bt310.2.2.2.2.2.2 true l0_0 a0_1 a0_2 bt294.1 bt294.2.1 bt294.2.2.1 bt294.2.2.2.1 bt294.2.2.2.2.1 bt294.2.2.2.2.2.1 bt304.1 bt304.2.1 bt304.2.2 bt310.1 bt310.2.1 bt310.2.2.1 bt310.2.2.2.1 bt310.2.2.2.2.1 bt310.2.2.2.2.2.1)))))))) = some r := H
  have A2 := Aside0.mk A20
  clear A20
  by_cases c3 : t288 < 0
  · rw [if_pos c3] at H
    have c3b0 : decide (t288 < 0) = true := decide_eq_true c3
    clear c3
    obtain rfl := Option.some.inj H
    go_enter Try.func5, Try.ntmps5
    go_wp2_with (first | ((with_reducible refine gate_dst (N := 1) rfl ?_); refine box_event ?hg (N := 1) ?hd (cs := #[.slice A0_0 l0_0.length c0_0, .int .i64 a0_1, .int .i64 a0_2]) (t := 24) ?hr ?_; (case hd => rfl); (case hg => rfl); (case hr => first | (go_simp; done) | (go_simp; rfl)); intro gb287 hg w4 hbox hb; have n0_ := Aside0.mk (below_step (by repeat (first | (with_reducible first | exact HB.out | apply below_alloc | apply pw_below_drewN | apply below_drew1) | exact HB.out)) hb); have n1_ := Aside0.mk (hbox); have n2_ := Aside0.mk ((by rw [hg]; exact (below_size (by repeat (first | (with_reducible first | exact HB.out | apply below_alloc | apply pw_below_drewN | apply below_drew1) | exact HB.out))) : w.heap.size ≤ gb287)); have n3_ := Aside0.mk ((by rw [hg]; exact (below_size (by repeat (first | (with_reducible first | exact HB.out | apply below_alloc | apply pw_below_drewN | apply below_drew1) | exact HB.out))) : w.heap.size ≤ gb287)); clear HB; have HB := n0_; have BK287 := n1_; have GW287 := n2_; have GE287 := n3_; clear n0_ n1_ n2_ n3_; clear hb hbox hg; have hcz5_0 : w4.cell? ⟨gb287, 0, none⟩ = some (.slice A0_0 l0_0.length c0_0) := (blk_cell BK287.out 0).trans rfl; have hcz5_1 : w4.cell? ⟨gb287, 1, none⟩ = some (.int .i64 a0_1) := (blk_cell BK287.out 1).trans rfl; have hcz5_2 : w4.cell? ⟨gb287, 2, none⟩ = some (.int .i64 a0_2) := (blk_cell BK287.out 2).trans rfl; have hfz5_0 := blk_frozen BK287.out 0; have hfz5_1 := blk_frozen BK287.out 1; have hfz5_2 := blk_frozen BK287.out 2) | ((with_reducible refine gate_callee (f := 15) rfl ?_); refine goesL_ (some 16) rfl rfl Try.func15 (by kernel_rfl) rfl #[.agg #[.slice A0_0 l0_0.length c0_0, .int .i64 a0_1, .int .i64 a0_2], .int .i64 1048576] rfl (by (try simp only [List.map_toArray, List.map_cons, List.map_nil]); first | done | rfl | (simp only [List.length_drop, List.length_take]; rfl)) ?_; (with_reducible refine (laws_szGallery.calls _ _ l0_0 a0_1 a0_2 1048576 t288 _ ?side1 ?side2 A2.out).mono ?_); (case side1 => repeat (first | exact (Kd.C_below HR0_0.out HB.out) | (with_reducible refine Kd.C_alloc ?_ _) | (with_reducible refine Kd.C_drewN ?_ _) | (with_reducible refine Kd.C_drew ?_))); (case side2 => exact HC0_0.out); rintro e w6 ⟨rfl, hb⟩; refine ⟨_, rfl, ?_⟩; have n0_ := Aside0.mk (blk_below (g := gb287) (o := .cells #[.slice A0_0 l0_0.length c0_0, .int .i64 a0_1, .int .i64 a0_2] 24 (0, 0)) (by (with_reducible repeat (first | refine blk_drewN ?_ _ | refine blk_drew ?_ | refine blk_alloc ?_ _)); exact BK287.out) hb); have n1_ := Aside0.mk (below_step (by repeat (first | (with_reducible first | exact HB.out | apply below_alloc | apply pw_below_drewN | apply below_drew1 | refine below_set ?_ GE287.out) | exact HB.out)) hb); clear BK287; clear HB; have BK287 := n0_; have HB := n1_; clear n0_ n1_; (try clear hb); (try clear hb2); (try clear hk); (try clear hi)))
    go_ret
    exact ⟨by first | rfl | (simp [errW_none, errW_some] <;> rfl) | (simp [*, errW_none, errW_some] <;> rfl), by repeat (first | (with_reducible first | exact HB.out | apply below_alloc | apply pw_below_drewN | apply below_drew1 | refine below_set ?_ GE287.out) | exact HB.out)⟩
  · rw [if_neg c3] at H
    have c3b0 : decide (t288 < 0) = false := decide_eq_false c3
    clear c3
    replace H := Option.bind_eq_some_iff.mp H
    obtain ⟨⟨t289, t292, t293⟩, A70, H⟩ := H
    replace H : ((spec_NewConsole.f k t289 t292 t293).bind fun bt294 => ((laws_toGallery.f k l0_0 a0_1 a0_2).bind fun bt304 => ((impl_NewConsole.f k bt304.1 bt304.2.1 bt304.2.2).bind fun bt310 => ((laws_eqConsole.f k bt310.1 bt310.2.1 bt310.2.2.1 bt310.2.2.2.1 bt310.2.2.2.2.1 bt310.2.2.2.2.2.1 bt294.1 bt294.2.1 bt294.2.2.1 bt294.2.2.2.1 bt294.2.2.2.2.1 bt294.2.2.2.2.2.1).bind fun t320 => (if t320 = true then (laws_FnExactNewConsole.j0 k bt294.2.2.2.2.2.2 bt310.2.2.2.2.2.2 (bt310.2.2.2.2.2.2 != bt294.2.2.2.2.2.2) l0_0 a0_1 a0_2 bt294.1 bt294.2.1 bt294.2.2.1 bt294.2.2.2.1 bt294.2.2.2.2.1 bt294.2.2.2.2.2.1 bt304.1 bt304.2.1 bt304.2.2 bt310.1 bt310.2.1 bt310.2.2.1 bt310.2.2.2.1 bt310.2.2.2.2.1 bt310.2.2.2.2.2.1) else (laws_FnExactNewConsole.j0 k bt294.2.2.2.2.2.2 bt310.2.2.2.2.2.2 true l0_0 a0_1 a0_2 bt294.1 bt294.2.1 bt294.2.2.1 bt294.2.2.2.1 bt294.2.2.2.2.1 bt294.2.2.2.2.2.1 bt304.1 bt304.2.1 bt304.2.2 bt310.1 bt310.2.1 bt310.2.2.1 bt310.2.2.2.1 bt310.2.2.2.2.1 bt310.2.2.2.2.2.1)))))) = some r := H
    have A7 := Aside0.mk A70
    clear A70
    replace H := Option.bind_eq_some_iff.mp H
    obtain ⟨⟨t294, t297, t298, t299, t300, t301, t302⟩, A80, H⟩ := H
    replace H : ((laws_toGallery.f k l0_0 a0_1 a0_2).bind fun bt304 => ((impl_NewConsole.f k bt304.1 bt304.2.1 bt304.2.2).bind fun bt310 => ((laws_eqConsole.f k bt310.1 bt310.2.1 bt310.2.2.1 bt310.2.2.2.1 bt310.2.2.2.2.1 bt310.2.2.2.2.2.1 t294 t297 t298 t299 t300 t301).bind fun t320 => (if t320 = true then (laws_FnExactNewConsole.j0 k t302 bt310.2.2.2.2.2.2 (bt310.2.2.2.2.2.2 != t302) l0_0 a0_1 a0_2 t294 t297 t298 t299 t300 t301 bt304.1 bt304.2.1 bt304.2.2 bt310.1 bt310.2.1 bt310.2.2.1 bt310.2.2.2.1 bt310.2.2.2.2.1 bt310.2.2.2.2.2.1) else (laws_FnExactNewConsole.j0 k t302 bt310.2.2.2.2.2.2 true l0_0 a0_1 a0_2 t294 t297 t298 t299 t300 t301 bt304.1 bt304.2.1 bt304.2.2 bt310.1 bt310.2.1 bt310.2.2.1 bt310.2.2.2.1 bt310.2.2.2.2.1 bt310.2.2.2.2.2.1))))) = some r := H
    have A8 := Aside0.mk A80
    clear A80
    replace H := Option.bind_eq_some_iff.mp H
    obtain ⟨⟨t304, t307, t308⟩, A90, H⟩ := H
    replace H : ((impl_NewConsole.f k t304 t307 t308).bind fun bt310 => ((laws_eqConsole.f k bt310.1 bt310.2.1 bt310.2.2.1 bt310.2.2.2.1 bt310.2.2.2.2.1 bt310.2.2.2.2.2.1 t294 t297 t298 t299 t300 t301).bind fun t320 => (if t320 = true then (laws_FnExactNewConsole.j0 k t302 bt310.2.2.2.2.2.2 (bt310.2.2.2.2.2.2 != t302) l0_0 a0_1 a0_2 t294 t297 t298 t299 t300 t301 t304 t307 t308 bt310.1 bt310.2.1 bt310.2.2.1 bt310.2.2.2.1 bt310.2.2.2.2.1 bt310.2.2.2.2.2.1) else (laws_FnExactNewConsole.j0 k t302 bt310.2.2.2.2.2.2 true l0_0 a0_1 a0_2 t294 t297 t298 t299 t300 t301 t304 t307 t308 bt310.1 bt310.2.1 bt310.2.2.1 bt310.2.2.2.1 bt310.2.2.2.2.1 bt310.2.2.2.2.2.1)))) = some r := H
    have A9 := Aside0.mk A90
    clear A90
    replace H := Option.bind_eq_some_iff.mp H
    obtain ⟨⟨t310, t313, t314, t315, t316, t317, t318⟩, A100, H⟩ := H
    replace H : ((laws_eqConsole.f k t310 t313 t314 t315 t316 t317 t294 t297 t298 t299 t300 t301).bind fun t320 => (if t320 = true then (laws_FnExactNewConsole.j0 k t302 t318 (t318 != t302) l0_0 a0_1 a0_2 t294 t297 t298 t299 t300 t301 t304 t307 t308 t310 t313 t314 t315 t316 t317) else (laws_FnExactNewConsole.j0 k t302 t318 true l0_0 a0_1 a0_2 t294 t297 t298 t299 t300 t301 t304 t307 t308 t310 t313 t314 t315 t316 t317))) = some r := H
    have A10 := Aside0.mk A100
    clear A100
    have HC11 := Aside0.mk H
    clear H
    go_enter Try.func5, Try.ntmps5
    go_upto_region 8 with (first | ((with_reducible refine gate_dst (N := 1) rfl ?_); refine box_event ?hg (N := 1) ?hd (cs := #[.slice A0_0 l0_0.length c0_0, .int .i64 a0_1, .int .i64 a0_2]) (t := 24) ?hr ?_; (case hd => rfl); (case hg => rfl); (case hr => first | (go_simp; done) | (go_simp; rfl)); intro gb287 hg w12 hbox hb; have n0_ := Aside0.mk (below_step (by repeat (first | (with_reducible first | exact HB.out | apply below_alloc | apply pw_below_drewN | apply below_drew1) | exact HB.out)) hb); have n1_ := Aside0.mk (hbox); have n2_ := Aside0.mk ((by rw [hg]; exact (below_size (by repeat (first | (with_reducible first | exact HB.out | apply below_alloc | apply pw_below_drewN | apply below_drew1) | exact HB.out))) : w.heap.size ≤ gb287)); have n3_ := Aside0.mk ((by rw [hg]; exact (below_size (by repeat (first | (with_reducible first | exact HB.out | apply below_alloc | apply pw_below_drewN | apply below_drew1) | exact HB.out))) : w.heap.size ≤ gb287)); clear HB; have HB := n0_; have BK287 := n1_; have GW287 := n2_; have GE287 := n3_; clear n0_ n1_ n2_ n3_; clear hb hbox hg; have hcz13_0 : w12.cell? ⟨gb287, 0, none⟩ = some (.slice A0_0 l0_0.length c0_0) := (blk_cell BK287.out 0).trans rfl; have hcz13_1 : w12.cell? ⟨gb287, 1, none⟩ = some (.int .i64 a0_1) := (blk_cell BK287.out 1).trans rfl; have hcz13_2 : w12.cell? ⟨gb287, 2, none⟩ = some (.int .i64 a0_2) := (blk_cell BK287.out 2).trans rfl; have hfz13_0 := blk_frozen BK287.out 0; have hfz13_1 := blk_frozen BK287.out 1; have hfz13_2 := blk_frozen BK287.out 2) | ((with_reducible refine gate_callee (f := 15) rfl ?_); refine goesL_ (some 16) rfl rfl Try.func15 (by kernel_rfl) rfl #[.agg #[.slice A0_0 l0_0.length c0_0, .int .i64 a0_1, .int .i64 a0_2], .int .i64 1048576] rfl (by (try simp only [List.map_toArray, List.map_cons, List.map_nil]); first | done | rfl | (simp only [List.length_drop, List.length_take]; rfl)) ?_; (with_reducible refine (laws_szGallery.calls _ _ l0_0 a0_1 a0_2 1048576 t288 _ ?side1 ?side2 A2.out).mono ?_); (case side1 => repeat (first | exact (Kd.C_below HR0_0.out HB.out) | (with_reducible refine Kd.C_alloc ?_ _) | (with_reducible refine Kd.C_drewN ?_ _) | (with_reducible refine Kd.C_drew ?_))); (case side2 => exact HC0_0.out); rintro e w14 ⟨rfl, hb⟩; refine ⟨_, rfl, ?_⟩; have n0_ := Aside0.mk (blk_below (g := gb287) (o := .cells #[.slice A0_0 l0_0.length c0_0, .int .i64 a0_1, .int .i64 a0_2] 24 (0, 0)) (by (with_reducible repeat (first | refine blk_drewN ?_ _ | refine blk_drew ?_ | refine blk_alloc ?_ _)); exact BK287.out) hb); have n1_ := Aside0.mk (below_step (by repeat (first | (with_reducible first | exact HB.out | apply below_alloc | apply pw_below_drewN | apply below_drew1 | refine below_set ?_ GE287.out) | exact HB.out)) hb); clear BK287; clear HB; have BK287 := n0_; have HB := n1_; clear n0_ n1_; (try clear hb); (try clear hb2); (try clear hk); (try clear hi); have hcz15_0 : w14.cell? ⟨gb287, 0, none⟩ = some (.slice A0_0 l0_0.length c0_0) := (blk_cell BK287.out 0).trans rfl; have hcz15_1 : w14.cell? ⟨gb287, 1, none⟩ = some (.int .i64 a0_1) := (blk_cell BK287.out 1).trans rfl; have hcz15_2 : w14.cell? ⟨gb287, 2, none⟩ = some (.int .i64 a0_2) := (blk_cell BK287.out 2).trans rfl; have hfz15_0 := blk_frozen BK287.out 0; have hfz15_1 := blk_frozen BK287.out 1; have hfz15_2 := blk_frozen BK287.out 2) | ((with_reducible refine gate_callee (f := 17) rfl ?_); refine goesL_ (some 21) rfl rfl Try.func17 (by kernel_rfl) rfl #[.agg #[.slice A0_0 l0_0.length c0_0, .int .i64 a0_1, .int .i64 a0_2]] rfl (by (try simp only [List.map_toArray, List.map_cons, List.map_nil]); first | done | rfl | (simp only [List.length_drop, List.length_take]; rfl)) ?_; (with_reducible refine (laws_toGallery.calls k _ _ l0_0 a0_1 a0_2 t289 t292 t293 _ ?side1 ?side2 A7.out).mono ?_); (case side1 => repeat (first | exact (Kd.C_below HR0_0.out HB.out) | (with_reducible refine Kd.C_alloc ?_ _) | (with_reducible refine Kd.C_drewN ?_ _) | (with_reducible refine Kd.C_drew ?_))); (case side2 => exact HC0_0.out); rintro e w16 ⟨v290, rfl, ho0, hb⟩; refine ⟨_, rfl, ?_⟩; have n0_ := Aside0.mk (Kd.R_lower ho0 (below_size (by repeat (first | (with_reducible first | exact HB.out | apply below_alloc | apply pw_below_drewN | apply below_drew1 | refine below_set ?_ GE287.out) | exact HB.out)))); have n1_ := Aside0.mk (blk_below (g := gb287) (o := .cells #[.slice A0_0 l0_0.length c0_0, .int .i64 a0_1, .int .i64 a0_2] 24 (0, 0)) (by (with_reducible repeat (first | refine blk_drewN ?_ _ | refine blk_drew ?_ | refine blk_alloc ?_ _)); exact BK287.out) hb); have n2_ := Aside0.mk (below_step (by repeat (first | (with_reducible first | exact HB.out | apply below_alloc | apply pw_below_drewN | apply below_drew1 | refine below_set ?_ GE287.out) | exact HB.out)) hb); clear BK287; clear HB; have HO291 := n0_; have BK287 := n1_; have HB := n2_; clear n0_ n1_ n2_; (try clear hb); (try clear hb2); (try clear hk); (try clear hi); (try clear ho0); obtain ⟨Ao17, co17, eo17⟩ := Kd.R_slice HO291.out; subst eo17) | ((with_reducible refine gate_callee (f := 27) rfl ?_); refine goesL_ (some 22) rfl rfl Try.func27 (by kernel_rfl) rfl #[.agg #[.slice Ao17 t289.length co17, .int .i64 t292, .int .i64 t293]] rfl (by (try simp only [List.map_toArray, List.map_cons, List.map_nil]); first | done | rfl | (simp only [List.length_drop, List.length_take]; rfl)) ?_; (with_reducible refine (spec_NewConsole.calls k _ _ t289 t292 t293 t294 t297 t298 t299 t300 t301 t302 _ ?side1 ?side2 A8.out).mono ?_); (case side1 => repeat (first | exact (Kd.R_reads' HO291.out).2.2 | (with_reducible refine Kd.C_alloc ?_ _) | (with_reducible refine Kd.C_drewN ?_ _) | (with_reducible refine Kd.C_drew ?_))); (case side2 => exact (Kd.R_reads' HO291.out).2.1); rintro e w18 ⟨v295, rfl, ho0, hb⟩; refine ⟨_, rfl, ?_⟩; have n0_ := Aside0.mk (Kd.R_elder' (by (with_reducible repeat (first | apply Kd.R_alloc | apply Kd.R_drewN | apply Kd.R_drew)); exact HO291.out) (Kd.R_base ho0) hb); have n1_ := Aside0.mk (Kd.R_lower (Kd.R_new' ho0 (Kd.R_lt (by (with_reducible repeat (first | apply Kd.R_alloc | apply Kd.R_drewN | apply Kd.R_drew)); exact HO291.out))) (below_size (by repeat (first | (with_reducible first | exact HB.out | apply below_alloc | apply pw_below_drewN | apply below_drew1 | refine below_set ?_ GE287.out) | exact HB.out)))); have n2_ := Aside0.mk (blk_below (g := gb287) (o := .cells #[.slice A0_0 l0_0.length c0_0, .int .i64 a0_1, .int .i64 a0_2] 24 (0, 0)) (by (with_reducible repeat (first | refine blk_drewN ?_ _ | refine blk_drew ?_ | refine blk_alloc ?_ _)); exact BK287.out) hb); have n3_ := Aside0.mk (below_step (by repeat (first | (with_reducible first | exact HB.out | apply below_alloc | apply pw_below_drewN | apply below_drew1 | refine below_set ?_ GE287.out) | exact HB.out)) hb); clear HO291; clear BK287; clear HB; have HO291 := n0_; have HO296 := n1_; have BK287 := n2_; have HB := n3_; clear n0_ n1_ n2_ n3_; (try clear hb); (try clear hb2); (try clear hk); (try clear hi); (try clear ho0)) | ((with_reducible refine gate_dst (N := 4) rfl ?_); refine box_event ?hg (N := 4) ?hd (cs := #[.slice none 0 0, .int .i64 0, .int .i64 0, .string (⟨#[]⟩ : ByteArray), .string (⟨#[]⟩ : ByteArray), .int .i64 0]) (t := 41) ?hr ?_; (case hd => rfl); (case hg => rfl); (case hr => first | (go_simp; done) | (go_simp; rfl)); intro gb303 hg w19 hbox hb; have n0_ := Aside0.mk (Kd.R_below (by (with_reducible repeat (first | apply Kd.R_alloc | apply Kd.R_drewN | apply Kd.R_drew)); exact HO291.out) hb); have n1_ := Aside0.mk (Kd.R_below (by (with_reducible repeat (first | apply Kd.R_alloc | apply Kd.R_drewN | apply Kd.R_drew)); exact HO296.out) hb); have n2_ := Aside0.mk (blk_below (g := gb287) (o := .cells #[.slice A0_0 l0_0.length c0_0, .int .i64 a0_1, .int .i64 a0_2] 24 (0, 0)) (by (with_reducible repeat (first | refine blk_drewN ?_ _ | refine blk_drew ?_ | refine blk_alloc ?_ _)); exact BK287.out) hb); have n3_ := Aside0.mk (below_step (by repeat (first | (with_reducible first | exact HB.out | apply below_alloc | apply pw_below_drewN | apply below_drew1 | refine below_set ?_ GE287.out) | exact HB.out)) hb); have n4_ := Aside0.mk (hbox); have n5_ := Aside0.mk ((by rw [hg]; exact (below_size (by repeat (first | (with_reducible first | exact HB.out | apply below_alloc | apply pw_below_drewN | apply below_drew1 | refine below_set ?_ GE287.out) | exact HB.out))) : w.heap.size ≤ gb303)); have n6_ := Aside0.mk ((by rw [hg]; exact (below_size (by repeat (first | (with_reducible first | exact HB.out | apply below_alloc | apply pw_below_drewN | apply below_drew1 | refine below_set ?_ GE287.out) | exact HB.out))) : w.heap.size ≤ gb303)); have n7_ := Aside0.mk ((by rw [hg]; exact Nat.ne_of_lt (blk_lt (g := gb287) (o := .cells #[.slice A0_0 l0_0.length c0_0, .int .i64 a0_1, .int .i64 a0_2] 24 (0, 0)) (by (with_reducible repeat (first | refine blk_drewN ?_ _ | refine blk_drew ?_ | refine blk_alloc ?_ _)); exact BK287.out)) : gb287 ≠ gb303)); have n8_ := Aside0.mk ((by rw [hg]; exact Nat.ne_of_gt (blk_lt (g := gb287) (o := .cells #[.slice A0_0 l0_0.length c0_0, .int .i64 a0_1, .int .i64 a0_2] 24 (0, 0)) (by (with_reducible repeat (first | refine blk_drewN ?_ _ | refine blk_drew ?_ | refine blk_alloc ?_ _)); exact BK287.out)) : gb303 ≠ gb287)); clear HO291; clear HO296; clear BK287; clear HB; have HO291 := n0_; have HO296 := n1_; have BK287 := n2_; have HB := n3_; have BK303 := n4_; have GW303 := n5_; have GE303 := n6_; have NB287_303 := n7_; have NB303_287 := n8_; clear n0_ n1_ n2_ n3_ n4_ n5_ n6_ n7_ n8_; clear hb hbox hg; obtain ⟨Ao20, co20, eo20⟩ := Kd.R_slice HO296.out; subst eo20; have hnb21 := NB303_287.out; have hnc21 := NB287_303.out; have hcz22_0 : w19.cell? ⟨gb303, 0, none⟩ = some (.slice none 0 0) := (blk_cell BK303.out 0).trans rfl; have hcz22_1 : w19.cell? ⟨gb303, 1, none⟩ = some (.int .i64 0) := (blk_cell BK303.out 1).trans rfl; have hcz22_2 : w19.cell? ⟨gb303, 2, none⟩ = some (.int .i64 0) := (blk_cell BK303.out 2).trans rfl; have hcz22_3 : w19.cell? ⟨gb303, 3, none⟩ = some (.string (⟨#[]⟩ : ByteArray)) := (blk_cell BK303.out 3).trans rfl; have hcz22_4 : w19.cell? ⟨gb303, 4, none⟩ = some (.string (⟨#[]⟩ : ByteArray)) := (blk_cell BK303.out 4).trans rfl; have hcz22_5 : w19.cell? ⟨gb303, 5, none⟩ = some (.int .i64 0) := (blk_cell BK303.out 5).trans rfl; have hfz22_0 := blk_frozen BK303.out 0; have hfz22_1 := blk_frozen BK303.out 1; have hfz22_2 := blk_frozen BK303.out 2; have hfz22_3 := blk_frozen BK303.out 3; have hfz22_4 := blk_frozen BK303.out 4; have hfz22_5 := blk_frozen BK303.out 5; have hcz23_0 : w19.cell? ⟨gb287, 0, none⟩ = some (.slice A0_0 l0_0.length c0_0) := (blk_cell BK287.out 0).trans rfl; have hcz23_1 : w19.cell? ⟨gb287, 1, none⟩ = some (.int .i64 a0_1) := (blk_cell BK287.out 1).trans rfl; have hcz23_2 : w19.cell? ⟨gb287, 2, none⟩ = some (.int .i64 a0_2) := (blk_cell BK287.out 2).trans rfl; have hfz23_0 := blk_frozen BK287.out 0; have hfz23_1 := blk_frozen BK287.out 1; have hfz23_2 := blk_frozen BK287.out 2) | ((with_reducible refine gate_callee (f := 17) rfl ?_); refine goesL_ (some 26) rfl rfl Try.func17 (by kernel_rfl) rfl #[.agg #[.slice A0_0 l0_0.length c0_0, .int .i64 a0_1, .int .i64 a0_2]] rfl (by (try simp only [List.map_toArray, List.map_cons, List.map_nil]); first | done | rfl | (simp only [List.length_drop, List.length_take]; rfl)) ?_; (with_reducible refine (laws_toGallery.calls k _ _ l0_0 a0_1 a0_2 t304 t307 t308 _ ?side1 ?side2 A9.out).mono ?_); (case side1 => exact Kd.C_below HR0_0.out (by repeat (first | (with_reducible first | exact HB.out | apply below_alloc | apply pw_below_drewN | apply below_drew1 | refine below_set ?_ GE287.out | refine below_set ?_ GE303.out) | exact HB.out))); (case side2 => exact HC0_0.out); rintro e w24 ⟨v305, rfl, ho0, hb⟩; refine ⟨_, rfl, ?_⟩; have n0_ := Aside0.mk (Kd.R_elder' (by (with_reducible repeat (first | apply Kd.R_alloc | apply Kd.R_drewN | apply Kd.R_drew)); exact (Kd.R_mono (Kd.R_far (p := ⟨gb303, 5, none⟩) (Kd.R_far (p := ⟨gb303, 4, none⟩) (Kd.R_far (p := ⟨gb303, 3, none⟩) (Kd.R_far (p := ⟨gb303, 2, none⟩) (Kd.R_far (p := ⟨gb303, 1, none⟩) (Kd.R_far (p := ⟨gb303, 0, none⟩) (Kd.R_types HO291.out BK303.out (by decide)) (fun _ hk => hk.2) (.slice Ao20 t294.length co20)) (fun _ hk => hk.2) (.int .i64 t297)) (fun _ hk => hk.2) (.int .i64 t298)) (fun _ hk => hk.2) (.string t299)) (fun _ hk => hk.2) (.string t300)) (fun _ hk => hk.2) (.int .i64 t301)) (fun _ h_ => h_.1))) (Kd.R_base ho0) hb); have n1_ := Aside0.mk (Kd.R_elder' (by (with_reducible repeat (first | apply Kd.R_alloc | apply Kd.R_drewN | apply Kd.R_drew)); exact (Kd.R_mono (Kd.R_far (p := ⟨gb303, 5, none⟩) (Kd.R_far (p := ⟨gb303, 4, none⟩) (Kd.R_far (p := ⟨gb303, 3, none⟩) (Kd.R_far (p := ⟨gb303, 2, none⟩) (Kd.R_far (p := ⟨gb303, 1, none⟩) (Kd.R_far (p := ⟨gb303, 0, none⟩) (Kd.R_types HO296.out BK303.out (by decide)) (fun _ hk => hk.2) (.slice Ao20 t294.length co20)) (fun _ hk => hk.2) (.int .i64 t297)) (fun _ hk => hk.2) (.int .i64 t298)) (fun _ hk => hk.2) (.string t299)) (fun _ hk => hk.2) (.string t300)) (fun _ hk => hk.2) (.int .i64 t301)) (fun _ h_ => h_.1))) (Kd.R_base ho0) hb); have n2_ := Aside0.mk (Kd.R_lower (Kd.R_new' (Kd.R_new' ho0 (Kd.R_lt (by (with_reducible repeat (first | apply Kd.R_alloc | apply Kd.R_drewN | apply Kd.R_drew)); exact (Kd.R_mono (Kd.R_far (p := ⟨gb303, 5, none⟩) (Kd.R_far (p := ⟨gb303, 4, none⟩) (Kd.R_far (p := ⟨gb303, 3, none⟩) (Kd.R_far (p := ⟨gb303, 2, none⟩) (Kd.R_far (p := ⟨gb303, 1, none⟩) (Kd.R_far (p := ⟨gb303, 0, none⟩) (Kd.R_types HO291.out BK303.out (by decide)) (fun _ hk => hk.2) (.slice Ao20 t294.length co20)) (fun _ hk => hk.2) (.int .i64 t297)) (fun _ hk => hk.2) (.int .i64 t298)) (fun _ hk => hk.2) (.string t299)) (fun _ hk => hk.2) (.string t300)) (fun _ hk => hk.2) (.int .i64 t301)) (fun _ h_ => h_.1))))) (Kd.R_lt (by (with_reducible repeat (first | apply Kd.R_alloc | apply Kd.R_drewN | apply Kd.R_drew)); exact (Kd.R_mono (Kd.R_far (p := ⟨gb303, 5, none⟩) (Kd.R_far (p := ⟨gb303, 4, none⟩) (Kd.R_far (p := ⟨gb303, 3, none⟩) (Kd.R_far (p := ⟨gb303, 2, none⟩) (Kd.R_far (p := ⟨gb303, 1, none⟩) (Kd.R_far (p := ⟨gb303, 0, none⟩) (Kd.R_types HO296.out BK303.out (by decide)) (fun _ hk => hk.2) (.slice Ao20 t294.length co20)) (fun _ hk => hk.2) (.int .i64 t297)) (fun _ hk => hk.2) (.int .i64 t298)) (fun _ hk => hk.2) (.string t299)) (fun _ hk => hk.2) (.string t300)) (fun _ hk => hk.2) (.int .i64 t301)) (fun _ h_ => h_.1))))) (below_size (by repeat (first | (with_reducible first | exact HB.out | apply below_alloc | apply pw_below_drewN | apply below_drew1 | refine below_set ?_ GE287.out | refine below_set ?_ GE303.out) | exact HB.out)))); have n3_ := Aside0.mk (blk_below (g := gb287) (o := .cells #[.slice A0_0 l0_0.length c0_0, .int .i64 a0_1, .int .i64 a0_2] 24 (0, 0)) (by (with_reducible repeat (first | refine blk_drewN ?_ _ | refine blk_drew ?_ | refine blk_alloc ?_ _)); refine blk_far ?_ NB287_303.out _; (with_reducible repeat (first | refine blk_drewN ?_ _ | refine blk_drew ?_ | refine blk_alloc ?_ _)); refine blk_far ?_ NB287_303.out _; (with_reducible repeat (first | refine blk_drewN ?_ _ | refine blk_drew ?_ | refine blk_alloc ?_ _)); refine blk_far ?_ NB287_303.out _; (with_reducible repeat (first | refine blk_drewN ?_ _ | refine blk_drew ?_ | refine blk_alloc ?_ _)); refine blk_far ?_ NB287_303.out _; (with_reducible repeat (first | refine blk_drewN ?_ _ | refine blk_drew ?_ | refine blk_alloc ?_ _)); refine blk_far ?_ NB287_303.out _; (with_reducible repeat (first | refine blk_drewN ?_ _ | refine blk_drew ?_ | refine blk_alloc ?_ _)); refine blk_far ?_ NB287_303.out _; (with_reducible repeat (first | refine blk_drewN ?_ _ | refine blk_drew ?_ | refine blk_alloc ?_ _)); exact BK287.out) hb); have n4_ := Aside0.mk (blk_below (g := gb303) (o := .cells #[.slice Ao20 t294.length co20, .int .i64 t297, .int .i64 t298, .string t299, .string t300, .int .i64 t301] 41 (0, 0)) (by (with_reducible repeat (first | refine blk_drewN ?_ _ | refine blk_drew ?_ | refine blk_alloc ?_ _)); refine blk_put (cs := #[.slice Ao20 t294.length co20, .int .i64 t297, .int .i64 t298, .string t299, .string t300, .int .i64 0]) ?_ 5 _ rfl; (with_reducible repeat (first | refine blk_drewN ?_ _ | refine blk_drew ?_ | refine blk_alloc ?_ _)); refine blk_put (cs := #[.slice Ao20 t294.length co20, .int .i64 t297, .int .i64 t298, .string t299, .string (⟨#[]⟩ : ByteArray), .int .i64 0]) ?_ 4 _ rfl; (with_reducible repeat (first | refine blk_drewN ?_ _ | refine blk_drew ?_ | refine blk_alloc ?_ _)); refine blk_put (cs := #[.slice Ao20 t294.length co20, .int .i64 t297, .int .i64 t298, .string (⟨#[]⟩ : ByteArray), .string (⟨#[]⟩ : ByteArray), .int .i64 0]) ?_ 3 _ rfl; (with_reducible repeat (first | refine blk_drewN ?_ _ | refine blk_drew ?_ | refine blk_alloc ?_ _)); refine blk_put (cs := #[.slice Ao20 t294.length co20, .int .i64 t297, .int .i64 0, .string (⟨#[]⟩ : ByteArray), .string (⟨#[]⟩ : ByteArray), .int .i64 0]) ?_ 2 _ rfl; (with_reducible repeat (first | refine blk_drewN ?_ _ | refine blk_drew ?_ | refine blk_alloc ?_ _)); refine blk_put (cs := #[.slice Ao20 t294.length co20, .int .i64 0, .int .i64 0, .string (⟨#[]⟩ : ByteArray), .string (⟨#[]⟩ : ByteArray), .int .i64 0]) ?_ 1 _ rfl; (with_reducible repeat (first | refine blk_drewN ?_ _ | refine blk_drew ?_ | refine blk_alloc ?_ _)); refine blk_put (cs := #[.slice none 0 0, .int .i64 0, .int .i64 0, .string (⟨#[]⟩ : ByteArray), .string (⟨#[]⟩ : ByteArray), .int .i64 0]) ?_ 0 _ rfl; (with_reducible repeat (first | refine blk_drewN ?_ _ | refine blk_drew ?_ | refine blk_alloc ?_ _)); exact BK303.out) hb); have n5_ := Aside0.mk (below_step (by repeat (first | (with_reducible first | exact HB.out | apply below_alloc | apply pw_below_drewN | apply below_drew1 | refine below_set ?_ GE287.out | refine below_set ?_ GE303.out) | exact HB.out)) hb); clear HO291; clear HO296; clear BK287; clear BK303; clear HB; have HO291 := n0_; have HO296 := n1_; have HO306 := n2_; have BK287 := n3_; have BK303 := n4_; have HB := n5_; clear n0_ n1_ n2_ n3_ n4_ n5_; (try clear hb); (try clear hb2); (try clear hk); (try clear hi); (try clear ho0)) | ((with_reducible refine gate_dst (N := 6) rfl ?_); refine box_event ?hg (N := 6) ?hd (cs := #[.slice none 0 0, .int .i64 0, .int .i64 0]) (t := 27) ?hr ?_; (case hd => rfl); (case hg => rfl); (case hr => first | (go_simp; done) | (go_simp; rfl)); intro gb309 hg w25 hbox hb; have n0_ := Aside0.mk (Kd.R_below (by (with_reducible repeat (first | apply Kd.R_alloc | apply Kd.R_drewN | apply Kd.R_drew)); exact HO291.out) hb); have n1_ := Aside0.mk (Kd.R_below (by (with_reducible repeat (first | apply Kd.R_alloc | apply Kd.R_drewN | apply Kd.R_drew)); exact HO296.out) hb); have n2_ := Aside0.mk (Kd.R_below (by (with_reducible repeat (first | apply Kd.R_alloc | apply Kd.R_drewN | apply Kd.R_drew)); exact HO306.out) hb); have n3_ := Aside0.mk (blk_below (g := gb287) (o := .cells #[.slice A0_0 l0_0.length c0_0, .int .i64 a0_1, .int .i64 a0_2] 24 (0, 0)) (by (with_reducible repeat (first | refine blk_drewN ?_ _ | refine blk_drew ?_ | refine blk_alloc ?_ _)); exact BK287.out) hb); have n4_ := Aside0.mk (blk_below (g := gb303) (o := .cells #[.slice Ao20 t294.length co20, .int .i64 t297, .int .i64 t298, .string t299, .string t300, .int .i64 t301] 41 (0, 0)) (by (with_reducible repeat (first | refine blk_drewN ?_ _ | refine blk_drew ?_ | refine blk_alloc ?_ _)); exact BK303.out) hb); have n5_ := Aside0.mk (below_step (by repeat (first | (with_reducible first | exact HB.out | apply below_alloc | apply pw_below_drewN | apply below_drew1 | refine below_set ?_ GE287.out | refine below_set ?_ GE303.out) | exact HB.out)) hb); have n6_ := Aside0.mk (hbox); have n7_ := Aside0.mk ((by rw [hg]; exact (below_size (by repeat (first | (with_reducible first | exact HB.out | apply below_alloc | apply pw_below_drewN | apply below_drew1 | refine below_set ?_ GE287.out | refine below_set ?_ GE303.out) | exact HB.out))) : w.heap.size ≤ gb309)); have n8_ := Aside0.mk ((by rw [hg]; exact (below_size (by repeat (first | (with_reducible first | exact HB.out | apply below_alloc | apply pw_below_drewN | apply below_drew1 | refine below_set ?_ GE287.out | refine below_set ?_ GE303.out) | exact HB.out))) : w.heap.size ≤ gb309)); have n9_ := Aside0.mk ((by rw [hg]; exact Nat.ne_of_lt (blk_lt (g := gb287) (o := .cells #[.slice A0_0 l0_0.length c0_0, .int .i64 a0_1, .int .i64 a0_2] 24 (0, 0)) (by (with_reducible repeat (first | refine blk_drewN ?_ _ | refine blk_drew ?_ | refine blk_alloc ?_ _)); exact BK287.out)) : gb287 ≠ gb309)); have n10_ := Aside0.mk ((by rw [hg]; exact Nat.ne_of_gt (blk_lt (g := gb287) (o := .cells #[.slice A0_0 l0_0.length c0_0, .int .i64 a0_1, .int .i64 a0_2] 24 (0, 0)) (by (with_reducible repeat (first | refine blk_drewN ?_ _ | refine blk_drew ?_ | refine blk_alloc ?_ _)); exact BK287.out)) : gb309 ≠ gb287)); have n11_ := Aside0.mk ((by rw [hg]; exact Nat.ne_of_lt (blk_lt (g := gb303) (o := .cells #[.slice Ao20 t294.length co20, .int .i64 t297, .int .i64 t298, .string t299, .string t300, .int .i64 t301] 41 (0, 0)) (by (with_reducible repeat (first | refine blk_drewN ?_ _ | refine blk_drew ?_ | refine blk_alloc ?_ _)); exact BK303.out)) : gb303 ≠ gb309)); have n12_ := Aside0.mk ((by rw [hg]; exact Nat.ne_of_gt (blk_lt (g := gb303) (o := .cells #[.slice Ao20 t294.length co20, .int .i64 t297, .int .i64 t298, .string t299, .string t300, .int .i64 t301] 41 (0, 0)) (by (with_reducible repeat (first | refine blk_drewN ?_ _ | refine blk_drew ?_ | refine blk_alloc ?_ _)); exact BK303.out)) : gb309 ≠ gb303)); clear HO291; clear HO296; clear HO306; clear BK287; clear BK303; clear HB; have HO291 := n0_; have HO296 := n1_; have HO306 := n2_; have BK287 := n3_; have BK303 := n4_; have HB := n5_; have BK309 := n6_; have GW309 := n7_; have GE309 := n8_; have NB287_309 := n9_; have NB309_287 := n10_; have NB303_309 := n11_; have NB309_303 := n12_; clear n0_ n1_ n2_ n3_ n4_ n5_ n6_ n7_ n8_ n9_ n10_ n11_ n12_; clear hb hbox hg; obtain ⟨Ao26, co26, eo26⟩ := Kd.R_slice HO306.out; subst eo26; have hnb27 := NB309_287.out; have hnc27 := NB287_309.out; have hnb28 := NB309_303.out; have hnc28 := NB303_309.out; have hcz29_0 : w25.cell? ⟨gb309, 0, none⟩ = some (.slice none 0 0) := (blk_cell BK309.out 0).trans rfl; have hcz29_1 : w25.cell? ⟨gb309, 1, none⟩ = some (.int .i64 0) := (blk_cell BK309.out 1).trans rfl; have hcz29_2 : w25.cell? ⟨gb309, 2, none⟩ = some (.int .i64 0) := (blk_cell BK309.out 2).trans rfl; have hfz29_0 := blk_frozen BK309.out 0; have hfz29_1 := blk_frozen BK309.out 1; have hfz29_2 := blk_frozen BK309.out 2) | ((with_reducible refine gate_callee (f := 28) rfl ?_); refine goesL_ (some 29) rfl rfl Try.func28 (by kernel_rfl) rfl #[.agg #[.slice Ao26 t304.length co26, .int .i64 t307, .int .i64 t308]] rfl (by (try simp only [List.map_toArray, List.map_cons, List.map_nil]); first | done | rfl | (simp only [List.length_drop, List.length_take]; rfl)) ?_; (with_reducible refine (impl_NewConsole.calls k _ _ t304 t307 t308 t310 t313 t314 t315 t316 t317 t318 _ ?side1 ?side2 A10.out).mono ?_); (case side1 => refine (Kd.R_reads' (e := 3) (base := w.heap.size) (ok := fun k_ => ((True ∧ some k_ ≠ (.slice Ao17 t289.length co17 : Value).ownBlock) ∧ some k_ ≠ (.slice Ao20 t294.length co20 : Value).ownBlock)) (n := t304.length) (c := co26) ?_).2.2; exact (by (with_reducible repeat (first | apply Kd.R_alloc | apply Kd.R_drewN | apply Kd.R_drew)); exact (Kd.R_mono (Kd.R_far (p := ⟨gb309, 2, none⟩) (Kd.R_far (p := ⟨gb309, 1, none⟩) (Kd.R_far (p := ⟨gb309, 0, none⟩) (Kd.R_types HO306.out BK309.out (by decide)) (fun _ hk => hk.2) (.slice Ao26 t304.length co26)) (fun _ hk => hk.2) (.int .i64 t307)) (fun _ hk => hk.2) (.int .i64 t308)) (fun _ h_ => h_.1)))); (case side2 => exact (Kd.R_reads' HO306.out).2.1); rintro e w30 ⟨v311, rfl, ho0, hb⟩; refine ⟨_, rfl, ?_⟩; have n0_ := Aside0.mk (Kd.R_elder' (by (with_reducible repeat (first | apply Kd.R_alloc | apply Kd.R_drewN | apply Kd.R_drew)); exact (Kd.R_mono (Kd.R_far (p := ⟨gb309, 2, none⟩) (Kd.R_far (p := ⟨gb309, 1, none⟩) (Kd.R_far (p := ⟨gb309, 0, none⟩) (Kd.R_types HO291.out BK309.out (by decide)) (fun _ hk => hk.2) (.slice Ao26 t304.length co26)) (fun _ hk => hk.2) (.int .i64 t307)) (fun _ hk => hk.2) (.int .i64 t308)) (fun _ h_ => h_.1))) (Kd.R_base ho0) hb); have n1_ := Aside0.mk (Kd.R_elder' (by (with_reducible repeat (first | apply Kd.R_alloc | apply Kd.R_drewN | apply Kd.R_drew)); exact (Kd.R_mono (Kd.R_far (p := ⟨gb309, 2, none⟩) (Kd.R_far (p := ⟨gb309, 1, none⟩) (Kd.R_far (p := ⟨gb309, 0, none⟩) (Kd.R_types HO296.out BK309.out (by decide)) (fun _ hk => hk.2) (.slice Ao26 t304.length co26)) (fun _ hk => hk.2) (.int .i64 t307)) (fun _ hk => hk.2) (.int .i64 t308)) (fun _ h_ => h_.1))) (Kd.R_base ho0) hb); have n2_ := Aside0.mk (Kd.R_elder' (by (with_reducible repeat (first | apply Kd.R_alloc | apply Kd.R_drewN | apply Kd.R_drew)); exact (Kd.R_mono (Kd.R_far (p := ⟨gb309, 2, none⟩) (Kd.R_far (p := ⟨gb309, 1, none⟩) (Kd.R_far (p := ⟨gb309, 0, none⟩) (Kd.R_types HO306.out BK309.out (by decide)) (fun _ hk => hk.2) (.slice Ao26 t304.length co26)) (fun _ hk => hk.2) (.int .i64 t307)) (fun _ hk => hk.2) (.int .i64 t308)) (fun _ h_ => h_.1))) (Kd.R_base ho0) hb); have n3_ := Aside0.mk (Kd.R_lower (Kd.R_new' (Kd.R_new' (Kd.R_new' ho0 (Kd.R_lt (by (with_reducible repeat (first | apply Kd.R_alloc | apply Kd.R_drewN | apply Kd.R_drew)); exact (Kd.R_mono (Kd.R_far (p := ⟨gb309, 2, none⟩) (Kd.R_far (p := ⟨gb309, 1, none⟩) (Kd.R_far (p := ⟨gb309, 0, none⟩) (Kd.R_types HO291.out BK309.out (by decide)) (fun _ hk => hk.2) (.slice Ao26 t304.length co26)) (fun _ hk => hk.2) (.int .i64 t307)) (fun _ hk => hk.2) (.int .i64 t308)) (fun _ h_ => h_.1))))) (Kd.R_lt (by (with_reducible repeat (first | apply Kd.R_alloc | apply Kd.R_drewN | apply Kd.R_drew)); exact (Kd.R_mono (Kd.R_far (p := ⟨gb309, 2, none⟩) (Kd.R_far (p := ⟨gb309, 1, none⟩) (Kd.R_far (p := ⟨gb309, 0, none⟩) (Kd.R_types HO296.out BK309.out (by decide)) (fun _ hk => hk.2) (.slice Ao26 t304.length co26)) (fun _ hk => hk.2) (.int .i64 t307)) (fun _ hk => hk.2) (.int .i64 t308)) (fun _ h_ => h_.1))))) (Kd.R_lt (by (with_reducible repeat (first | apply Kd.R_alloc | apply Kd.R_drewN | apply Kd.R_drew)); exact (Kd.R_mono (Kd.R_far (p := ⟨gb309, 2, none⟩) (Kd.R_far (p := ⟨gb309, 1, none⟩) (Kd.R_far (p := ⟨gb309, 0, none⟩) (Kd.R_types HO306.out BK309.out (by decide)) (fun _ hk => hk.2) (.slice Ao26 t304.length co26)) (fun _ hk => hk.2) (.int .i64 t307)) (fun _ hk => hk.2) (.int .i64 t308)) (fun _ h_ => h_.1))))) (below_size (by repeat (first | (with_reducible first | exact HB.out | apply below_alloc | apply pw_below_drewN | apply below_drew1 | refine below_set ?_ GE287.out | refine below_set ?_ GE303.out | refine below_set ?_ GE309.out) | exact HB.out)))); have n4_ := Aside0.mk (blk_below (g := gb287) (o := .cells #[.slice A0_0 l0_0.length c0_0, .int .i64 a0_1, .int .i64 a0_2] 24 (0, 0)) (by (with_reducible repeat (first | refine blk_drewN ?_ _ | refine blk_drew ?_ | refine blk_alloc ?_ _)); refine blk_far ?_ NB287_309.out _; (with_reducible repeat (first | refine blk_drewN ?_ _ | refine blk_drew ?_ | refine blk_alloc ?_ _)); refine blk_far ?_ NB287_309.out _; (with_reducible repeat (first | refine blk_drewN ?_ _ | refine blk_drew ?_ | refine blk_alloc ?_ _)); refine blk_far ?_ NB287_309.out _; (with_reducible repeat (first | refine blk_drewN ?_ _ | refine blk_drew ?_ | refine blk_alloc ?_ _)); exact BK287.out) hb); have n5_ := Aside0.mk (blk_below (g := gb303) (o := .cells #[.slice Ao20 t294.length co20, .int .i64 t297, .int .i64 t298, .string t299, .string t300, .int .i64 t301] 41 (0, 0)) (by (with_reducible repeat (first | refine blk_drewN ?_ _ | refine blk_drew ?_ | refine blk_alloc ?_ _)); refine blk_far ?_ NB303_309.out _; (with_reducible repeat (first | refine blk_drewN ?_ _ | refine blk_drew ?_ | refine blk_alloc ?_ _)); refine blk_far ?_ NB303_309.out _; (with_reducible repeat (first | refine blk_drewN ?_ _ | refine blk_drew ?_ | refine blk_alloc ?_ _)); refine blk_far ?_ NB303_309.out _; (with_reducible repeat (first | refine blk_drewN ?_ _ | refine blk_drew ?_ | refine blk_alloc ?_ _)); exact BK303.out) hb); have n6_ := Aside0.mk (blk_below (g := gb309) (o := .cells #[.slice Ao26 t304.length co26, .int .i64 t307, .int .i64 t308] 27 (0, 0)) (by (with_reducible repeat (first | refine blk_drewN ?_ _ | refine blk_drew ?_ | refine blk_alloc ?_ _)); refine blk_put (cs := #[.slice Ao26 t304.length co26, .int .i64 t307, .int .i64 0]) ?_ 2 _ rfl; (with_reducible repeat (first | refine blk_drewN ?_ _ | refine blk_drew ?_ | refine blk_alloc ?_ _)); refine blk_put (cs := #[.slice Ao26 t304.length co26, .int .i64 0, .int .i64 0]) ?_ 1 _ rfl; (with_reducible repeat (first | refine blk_drewN ?_ _ | refine blk_drew ?_ | refine blk_alloc ?_ _)); refine blk_put (cs := #[.slice none 0 0, .int .i64 0, .int .i64 0]) ?_ 0 _ rfl; (with_reducible repeat (first | refine blk_drewN ?_ _ | refine blk_drew ?_ | refine blk_alloc ?_ _)); exact BK309.out) hb); have n7_ := Aside0.mk (below_step (by repeat (first | (with_reducible first | exact HB.out | apply below_alloc | apply pw_below_drewN | apply below_drew1 | refine below_set ?_ GE287.out | refine below_set ?_ GE303.out | refine below_set ?_ GE309.out) | exact HB.out)) hb); clear HO291; clear HO296; clear HO306; clear BK287; clear BK303; clear BK309; clear HB; have HO291 := n0_; have HO296 := n1_; have HO306 := n2_; have HO312 := n3_; have BK287 := n4_; have BK303 := n5_; have BK309 := n6_; have HB := n7_; clear n0_ n1_ n2_ n3_ n4_ n5_ n6_ n7_; (try clear hb); (try clear hb2); (try clear hk); (try clear hi); (try clear ho0)) | ((with_reducible refine gate_dst (N := 7) rfl ?_); refine box_event ?hg (N := 7) ?hd (cs := #[.slice none 0 0, .int .i64 0, .int .i64 0, .string (⟨#[]⟩ : ByteArray), .string (⟨#[]⟩ : ByteArray), .int .i64 0]) (t := 41) ?hr ?_; (case hd => rfl); (case hg => rfl); (case hr => first | (go_simp; done) | (go_simp; rfl)); intro gb319 hg w31 hbox hb; have n0_ := Aside0.mk (Kd.R_below (by (with_reducible repeat (first | apply Kd.R_alloc | apply Kd.R_drewN | apply Kd.R_drew)); exact HO291.out) hb); have n1_ := Aside0.mk (Kd.R_below (by (with_reducible repeat (first | apply Kd.R_alloc | apply Kd.R_drewN | apply Kd.R_drew)); exact HO296.out) hb); have n2_ := Aside0.mk (Kd.R_below (by (with_reducible repeat (first | apply Kd.R_alloc | apply Kd.R_drewN | apply Kd.R_drew)); exact HO306.out) hb); have n3_ := Aside0.mk (Kd.R_below (by (with_reducible repeat (first | apply Kd.R_alloc | apply Kd.R_drewN | apply Kd.R_drew)); exact HO312.out) hb); have n4_ := Aside0.mk (blk_below (g := gb287) (o := .cells #[.slice A0_0 l0_0.length c0_0, .int .i64 a0_1, .int .i64 a0_2] 24 (0, 0)) (by (with_reducible repeat (first | refine blk_drewN ?_ _ | refine blk_drew ?_ | refine blk_alloc ?_ _)); exact BK287.out) hb); have n5_ := Aside0.mk (blk_below (g := gb303) (o := .cells #[.slice Ao20 t294.length co20, .int .i64 t297, .int .i64 t298, .string t299, .string t300, .int .i64 t301] 41 (0, 0)) (by (with_reducible repeat (first | refine blk_drewN ?_ _ | refine blk_drew ?_ | refine blk_alloc ?_ _)); exact BK303.out) hb); have n6_ := Aside0.mk (blk_below (g := gb309) (o := .cells #[.slice Ao26 t304.length co26, .int .i64 t307, .int .i64 t308] 27 (0, 0)) (by (with_reducible repeat (first | refine blk_drewN ?_ _ | refine blk_drew ?_ | refine blk_alloc ?_ _)); exact BK309.out) hb); have n7_ := Aside0.mk (below_step (by repeat (first | (with_reducible first | exact HB.out | apply below_alloc | apply pw_below_drewN | apply below_drew1 | refine below_set ?_ GE287.out | refine below_set ?_ GE303.out | refine below_set ?_ GE309.out) | exact HB.out)) hb); have n8_ := Aside0.mk (hbox); have n9_ := Aside0.mk ((by rw [hg]; exact (below_size (by repeat (first | (with_reducible first | exact HB.out | apply below_alloc | apply pw_below_drewN | apply below_drew1 | refine below_set ?_ GE287.out | refine below_set ?_ GE303.out | refine below_set ?_ GE309.out) | exact HB.out))) : w.heap.size ≤ gb319)); have n10_ := Aside0.mk ((by rw [hg]; exact (below_size (by repeat (first | (with_reducible first | exact HB.out | apply below_alloc | apply pw_below_drewN | apply below_drew1 | refine below_set ?_ GE287.out | refine below_set ?_ GE303.out | refine below_set ?_ GE309.out) | exact HB.out))) : w.heap.size ≤ gb319)); have n11_ := Aside0.mk ((by rw [hg]; exact Nat.ne_of_lt (blk_lt (g := gb287) (o := .cells #[.slice A0_0 l0_0.length c0_0, .int .i64 a0_1, .int .i64 a0_2] 24 (0, 0)) (by (with_reducible repeat (first | refine blk_drewN ?_ _ | refine blk_drew ?_ | refine blk_alloc ?_ _)); exact BK287.out)) : gb287 ≠ gb319)); have n12_ := Aside0.mk ((by rw [hg]; exact Nat.ne_of_gt (blk_lt (g := gb287) (o := .cells #[.slice A0_0 l0_0.length c0_0, .int .i64 a0_1, .int .i64 a0_2] 24 (0, 0)) (by (with_reducible repeat (first | refine blk_drewN ?_ _ | refine blk_drew ?_ | refine blk_alloc ?_ _)); exact BK287.out)) : gb319 ≠ gb287)); have n13_ := Aside0.mk ((by rw [hg]; exact Nat.ne_of_lt (blk_lt (g := gb303) (o := .cells #[.slice Ao20 t294.length co20, .int .i64 t297, .int .i64 t298, .string t299, .string t300, .int .i64 t301] 41 (0, 0)) (by (with_reducible repeat (first | refine blk_drewN ?_ _ | refine blk_drew ?_ | refine blk_alloc ?_ _)); exact BK303.out)) : gb303 ≠ gb319)); have n14_ := Aside0.mk ((by rw [hg]; exact Nat.ne_of_gt (blk_lt (g := gb303) (o := .cells #[.slice Ao20 t294.length co20, .int .i64 t297, .int .i64 t298, .string t299, .string t300, .int .i64 t301] 41 (0, 0)) (by (with_reducible repeat (first | refine blk_drewN ?_ _ | refine blk_drew ?_ | refine blk_alloc ?_ _)); exact BK303.out)) : gb319 ≠ gb303)); have n15_ := Aside0.mk ((by rw [hg]; exact Nat.ne_of_lt (blk_lt (g := gb309) (o := .cells #[.slice Ao26 t304.length co26, .int .i64 t307, .int .i64 t308] 27 (0, 0)) (by (with_reducible repeat (first | refine blk_drewN ?_ _ | refine blk_drew ?_ | refine blk_alloc ?_ _)); exact BK309.out)) : gb309 ≠ gb319)); have n16_ := Aside0.mk ((by rw [hg]; exact Nat.ne_of_gt (blk_lt (g := gb309) (o := .cells #[.slice Ao26 t304.length co26, .int .i64 t307, .int .i64 t308] 27 (0, 0)) (by (with_reducible repeat (first | refine blk_drewN ?_ _ | refine blk_drew ?_ | refine blk_alloc ?_ _)); exact BK309.out)) : gb319 ≠ gb309)); clear HO291; clear HO296; clear HO306; clear HO312; clear BK287; clear BK303; clear BK309; clear HB; have HO291 := n0_; have HO296 := n1_; have HO306 := n2_; have HO312 := n3_; have BK287 := n4_; have BK303 := n5_; have BK309 := n6_; have HB := n7_; have BK319 := n8_; have GW319 := n9_; have GE319 := n10_; have NB287_319 := n11_; have NB319_287 := n12_; have NB303_319 := n13_; have NB319_303 := n14_; have NB309_319 := n15_; have NB319_309 := n16_; clear n0_ n1_ n2_ n3_ n4_ n5_ n6_ n7_ n8_ n9_ n10_ n11_ n12_ n13_ n14_ n15_ n16_; clear hb hbox hg; obtain ⟨Ao32, co32, eo32⟩ := Kd.R_slice HO312.out; subst eo32; have hnb33 := NB319_287.out; have hnc33 := NB287_319.out; have hnb34 := NB319_303.out; have hnc34 := NB303_319.out; have hnb35 := NB319_309.out; have hnc35 := NB309_319.out; have hcz36_0 : w31.cell? ⟨gb319, 0, none⟩ = some (.slice none 0 0) := (blk_cell BK319.out 0).trans rfl; have hcz36_1 : w31.cell? ⟨gb319, 1, none⟩ = some (.int .i64 0) := (blk_cell BK319.out 1).trans rfl; have hcz36_2 : w31.cell? ⟨gb319, 2, none⟩ = some (.int .i64 0) := (blk_cell BK319.out 2).trans rfl; have hcz36_3 : w31.cell? ⟨gb319, 3, none⟩ = some (.string (⟨#[]⟩ : ByteArray)) := (blk_cell BK319.out 3).trans rfl; have hcz36_4 : w31.cell? ⟨gb319, 4, none⟩ = some (.string (⟨#[]⟩ : ByteArray)) := (blk_cell BK319.out 4).trans rfl; have hcz36_5 : w31.cell? ⟨gb319, 5, none⟩ = some (.int .i64 0) := (blk_cell BK319.out 5).trans rfl; have hfz36_0 := blk_frozen BK319.out 0; have hfz36_1 := blk_frozen BK319.out 1; have hfz36_2 := blk_frozen BK319.out 2; have hfz36_3 := blk_frozen BK319.out 3; have hfz36_4 := blk_frozen BK319.out 4; have hfz36_5 := blk_frozen BK319.out 5))
    (try simp only [Act.put, List.setIfInBounds_toArray, List.set_cons_zero, List.set_cons_succ])
    go_cut [40] (fun v40 wc => ∃ (kq : Nat) (x40_10 : Bool), v40 = .bool x40_10 ∧ Aside0 (laws_FnExactNewConsole.j0 kq t302 t318 x40_10 l0_0 a0_1 a0_2 t294 t297 t298 t299 t300 t301 t304 t307 t308 t310 t313 t314 t315 t316 t317 = some r) ∧ Aside0 (kq ≤ k) ∧ Aside0 (Kd.R (Kd.int .i64) 3 wc w.heap.size (fun k_ => some k_ ≠ ((.slice Ao26 t304.length co26) : Value).ownBlock ∧ some k_ ≠ ((.slice Ao32 t310.length co32) : Value).ownBlock) (.slice Ao20 t294.length co20) t294) ∧ Aside0 (Kd.R (Kd.int .i64) 3 wc w.heap.size (fun k_ => some k_ ≠ ((.slice Ao20 t294.length co20) : Value).ownBlock ∧ some k_ ≠ ((.slice Ao32 t310.length co32) : Value).ownBlock) (.slice Ao26 t304.length co26) t304) ∧ Aside0 (Kd.R (Kd.int .i64) 3 wc w.heap.size (fun k_ => some k_ ≠ ((.slice Ao20 t294.length co20) : Value).ownBlock ∧ some k_ ≠ ((.slice Ao26 t304.length co26) : Value).ownBlock) (.slice Ao32 t310.length co32) t310) ∧ Aside0 (wc.heap[gb287]? = some (.cells #[(.slice A0_0 l0_0.length c0_0), .int .i64 a0_1, .int .i64 a0_2] 24 (0, 0))) ∧ Aside0 (wc.heap[gb303]? = some (.cells #[(.slice Ao20 t294.length co20), .int .i64 t297, .int .i64 t298, .string t299, .string t300, .int .i64 t301] 41 (0, 0))) ∧ Aside0 (wc.heap[gb309]? = some (.cells #[(.slice Ao26 t304.length co26), .int .i64 t307, .int .i64 t308] 27 (0, 0))) ∧ Aside0 (wc.heap[gb319]? = some (.cells #[(.slice Ao32 t310.length co32), .int .i64 t313, .int .i64 t314, .string t315, .string t316, .int .i64 t317] 41 (0, 0))) ∧ Aside0 (Below w.heap.size w wc))
    case first =>
      have H := HC11.out
      clear HC11
      replace H := Option.bind_eq_some_iff.mp H
      obtain ⟨t320, A370, H⟩ := H
      replace H : (if t320 = true then (laws_FnExactNewConsole.j0 k t302 t318 (t318 != t302) l0_0 a0_1 a0_2 t294 t297 t298 t299 t300 t301 t304 t307 t308 t310 t313 t314 t315 t316 t317) else (laws_FnExactNewConsole.j0 k t302 t318 true l0_0 a0_1 a0_2 t294 t297 t298 t299 t300 t301 t304 t307 t308 t310 t313 t314 t315 t316 t317)) = some r := H
      have A37 := Aside0.mk A370
      clear A370
      by_cases c38 : t320 = true
      · subst c38
        have H1 : (laws_FnExactNewConsole.j0 k t302 t318 (t318 != t302) l0_0 a0_1 a0_2 t294 t297 t298 t299 t300 t301 t304 t307 t308 t310 t313 t314 t315 t316 t317) = some r := by rw [if_pos rfl] at H; exact H
        clear H
        have H := H1
        clear H1
        have H' := Aside0.mk H
        clear H
        have hnb39 := NB319_287.out
        have hnc39 := NB287_319.out
        have hnb40 := NB319_303.out
        have hnc40 := NB303_319.out
        have hnb41 := NB319_309.out
        have hnc41 := NB309_319.out
        have hcz42_0 : w31.cell? ⟨gb319, 0, none⟩ = some (.slice none 0 0) := (blk_cell BK319.out 0).trans rfl
        have hcz42_1 : w31.cell? ⟨gb319, 1, none⟩ = some (.int .i64 0) := (blk_cell BK319.out 1).trans rfl
        have hcz42_2 : w31.cell? ⟨gb319, 2, none⟩ = some (.int .i64 0) := (blk_cell BK319.out 2).trans rfl
        have hcz42_3 : w31.cell? ⟨gb319, 3, none⟩ = some (.string (⟨#[]⟩ : ByteArray)) := (blk_cell BK319.out 3).trans rfl
        have hcz42_4 : w31.cell? ⟨gb319, 4, none⟩ = some (.string (⟨#[]⟩ : ByteArray)) := (blk_cell BK319.out 4).trans rfl
        have hcz42_5 : w31.cell? ⟨gb319, 5, none⟩ = some (.int .i64 0) := (blk_cell BK319.out 5).trans rfl
        have hfz42_0 := blk_frozen BK319.out 0
        have hfz42_1 := blk_frozen BK319.out 1
        have hfz42_2 := blk_frozen BK319.out 2
        have hfz42_3 := blk_frozen BK319.out 3
        have hfz42_4 := blk_frozen BK319.out 4
        have hfz42_5 := blk_frozen BK319.out 5
        have hnb43 := NB303_287.out
        have hnc43 := NB287_303.out
        have hnb44 := NB303_309.out
        have hnc44 := NB309_303.out
        have hcz45_0 : w31.cell? ⟨gb303, 0, none⟩ = some (.slice Ao20 t294.length co20) := (blk_cell BK303.out 0).trans rfl
        have hcz45_1 : w31.cell? ⟨gb303, 1, none⟩ = some (.int .i64 t297) := (blk_cell BK303.out 1).trans rfl
        have hcz45_2 : w31.cell? ⟨gb303, 2, none⟩ = some (.int .i64 t298) := (blk_cell BK303.out 2).trans rfl
        have hcz45_3 : w31.cell? ⟨gb303, 3, none⟩ = some (.string t299) := (blk_cell BK303.out 3).trans rfl
        have hcz45_4 : w31.cell? ⟨gb303, 4, none⟩ = some (.string t300) := (blk_cell BK303.out 4).trans rfl
        have hcz45_5 : w31.cell? ⟨gb303, 5, none⟩ = some (.int .i64 t301) := (blk_cell BK303.out 5).trans rfl
        have hfz45_0 := blk_frozen BK303.out 0
        have hfz45_1 := blk_frozen BK303.out 1
        have hfz45_2 := blk_frozen BK303.out 2
        have hfz45_3 := blk_frozen BK303.out 3
        have hfz45_4 := blk_frozen BK303.out 4
        have hfz45_5 := blk_frozen BK303.out 5
        go_wp2_with (first | ((with_reducible refine gate_callee (f := 29) rfl ?_); refine goesL_ (some 34) rfl rfl Try.func29 (by kernel_rfl) rfl #[.agg #[.slice Ao32 t310.length co32, .int .i64 t313, .int .i64 t314, .string t315, .string t316, .int .i64 t317], .agg #[.slice Ao20 t294.length co20, .int .i64 t297, .int .i64 t298, .string t299, .string t300, .int .i64 t301]] rfl (by (try simp only [List.map_toArray, List.map_cons, List.map_nil]); first | done | rfl | (simp only [List.length_drop, List.length_take]; rfl)) ?_; (with_reducible refine (laws_eqConsole.calls k _ _ t310 t313 t314 t315 t316 t317 _ _ t294 t297 t298 t299 t300 t301 true _ ?side1 ?side2 ?side3 ?side4 A37.out).mono ?_); (case side1 => refine (Kd.R_reads' (e := 3) (base := w.heap.size) (ok := fun k_ => (((True ∧ some k_ ≠ (.slice Ao17 t289.length co17 : Value).ownBlock) ∧ some k_ ≠ (.slice Ao20 t294.length co20 : Value).ownBlock) ∧ some k_ ≠ (.slice Ao26 t304.length co26 : Value).ownBlock)) (n := t310.length) (c := co32) ?_).2.2; exact (by (with_reducible repeat (first | apply Kd.R_alloc | apply Kd.R_drewN | apply Kd.R_drew)); exact (Kd.R_mono (Kd.R_far (p := ⟨gb319, 5, none⟩) (Kd.R_far (p := ⟨gb319, 4, none⟩) (Kd.R_far (p := ⟨gb319, 3, none⟩) (Kd.R_far (p := ⟨gb319, 2, none⟩) (Kd.R_far (p := ⟨gb319, 1, none⟩) (Kd.R_far (p := ⟨gb319, 0, none⟩) (Kd.R_types HO312.out BK319.out (by decide)) (fun _ hk => hk.2) (.slice Ao32 t310.length co32)) (fun _ hk => hk.2) (.int .i64 t313)) (fun _ hk => hk.2) (.int .i64 t314)) (fun _ hk => hk.2) (.string t315)) (fun _ hk => hk.2) (.string t316)) (fun _ hk => hk.2) (.int .i64 t317)) (fun _ h_ => h_.1)))); (case side2 => exact (Kd.R_reads' HO312.out).2.1); (case side3 => refine (Kd.R_reads' (e := 3) (base := w.heap.size) (ok := fun k_ => (((True ∧ some k_ ≠ (.slice Ao17 t289.length co17 : Value).ownBlock) ∧ some k_ ≠ (.slice Ao26 t304.length co26 : Value).ownBlock) ∧ some k_ ≠ (.slice Ao32 t310.length co32 : Value).ownBlock)) (n := t294.length) (c := co20) ?_).2.2; exact (by (with_reducible repeat (first | apply Kd.R_alloc | apply Kd.R_drewN | apply Kd.R_drew)); exact (Kd.R_mono (Kd.R_far (p := ⟨gb319, 5, none⟩) (Kd.R_far (p := ⟨gb319, 4, none⟩) (Kd.R_far (p := ⟨gb319, 3, none⟩) (Kd.R_far (p := ⟨gb319, 2, none⟩) (Kd.R_far (p := ⟨gb319, 1, none⟩) (Kd.R_far (p := ⟨gb319, 0, none⟩) (Kd.R_types HO296.out BK319.out (by decide)) (fun _ hk => hk.2) (.slice Ao32 t310.length co32)) (fun _ hk => hk.2) (.int .i64 t313)) (fun _ hk => hk.2) (.int .i64 t314)) (fun _ hk => hk.2) (.string t315)) (fun _ hk => hk.2) (.string t316)) (fun _ hk => hk.2) (.int .i64 t317)) (fun _ h_ => h_.1)))); (case side4 => exact (Kd.R_reads' HO296.out).2.1); rintro e w46 ⟨rfl, hb⟩; refine ⟨_, rfl, ?_⟩; have n0_ := Aside0.mk (Kd.R_below (by (with_reducible repeat (first | apply Kd.R_alloc | apply Kd.R_drewN | apply Kd.R_drew)); exact (Kd.R_mono (Kd.R_far (p := ⟨gb319, 5, none⟩) (Kd.R_far (p := ⟨gb319, 4, none⟩) (Kd.R_far (p := ⟨gb319, 3, none⟩) (Kd.R_far (p := ⟨gb319, 2, none⟩) (Kd.R_far (p := ⟨gb319, 1, none⟩) (Kd.R_far (p := ⟨gb319, 0, none⟩) (Kd.R_types HO291.out BK319.out (by decide)) (fun _ hk => hk.2) (.slice Ao32 t310.length co32)) (fun _ hk => hk.2) (.int .i64 t313)) (fun _ hk => hk.2) (.int .i64 t314)) (fun _ hk => hk.2) (.string t315)) (fun _ hk => hk.2) (.string t316)) (fun _ hk => hk.2) (.int .i64 t317)) (fun _ h_ => h_.1))) hb); have n1_ := Aside0.mk (Kd.R_below (by (with_reducible repeat (first | apply Kd.R_alloc | apply Kd.R_drewN | apply Kd.R_drew)); exact (Kd.R_mono (Kd.R_far (p := ⟨gb319, 5, none⟩) (Kd.R_far (p := ⟨gb319, 4, none⟩) (Kd.R_far (p := ⟨gb319, 3, none⟩) (Kd.R_far (p := ⟨gb319, 2, none⟩) (Kd.R_far (p := ⟨gb319, 1, none⟩) (Kd.R_far (p := ⟨gb319, 0, none⟩) (Kd.R_types HO296.out BK319.out (by decide)) (fun _ hk => hk.2) (.slice Ao32 t310.length co32)) (fun _ hk => hk.2) (.int .i64 t313)) (fun _ hk => hk.2) (.int .i64 t314)) (fun _ hk => hk.2) (.string t315)) (fun _ hk => hk.2) (.string t316)) (fun _ hk => hk.2) (.int .i64 t317)) (fun _ h_ => h_.1))) hb); have n2_ := Aside0.mk (Kd.R_below (by (with_reducible repeat (first | apply Kd.R_alloc | apply Kd.R_drewN | apply Kd.R_drew)); exact (Kd.R_mono (Kd.R_far (p := ⟨gb319, 5, none⟩) (Kd.R_far (p := ⟨gb319, 4, none⟩) (Kd.R_far (p := ⟨gb319, 3, none⟩) (Kd.R_far (p := ⟨gb319, 2, none⟩) (Kd.R_far (p := ⟨gb319, 1, none⟩) (Kd.R_far (p := ⟨gb319, 0, none⟩) (Kd.R_types HO306.out BK319.out (by decide)) (fun _ hk => hk.2) (.slice Ao32 t310.length co32)) (fun _ hk => hk.2) (.int .i64 t313)) (fun _ hk => hk.2) (.int .i64 t314)) (fun _ hk => hk.2) (.string t315)) (fun _ hk => hk.2) (.string t316)) (fun _ hk => hk.2) (.int .i64 t317)) (fun _ h_ => h_.1))) hb); have n3_ := Aside0.mk (Kd.R_below (by (with_reducible repeat (first | apply Kd.R_alloc | apply Kd.R_drewN | apply Kd.R_drew)); exact (Kd.R_mono (Kd.R_far (p := ⟨gb319, 5, none⟩) (Kd.R_far (p := ⟨gb319, 4, none⟩) (Kd.R_far (p := ⟨gb319, 3, none⟩) (Kd.R_far (p := ⟨gb319, 2, none⟩) (Kd.R_far (p := ⟨gb319, 1, none⟩) (Kd.R_far (p := ⟨gb319, 0, none⟩) (Kd.R_types HO312.out BK319.out (by decide)) (fun _ hk => hk.2) (.slice Ao32 t310.length co32)) (fun _ hk => hk.2) (.int .i64 t313)) (fun _ hk => hk.2) (.int .i64 t314)) (fun _ hk => hk.2) (.string t315)) (fun _ hk => hk.2) (.string t316)) (fun _ hk => hk.2) (.int .i64 t317)) (fun _ h_ => h_.1))) hb); have n4_ := Aside0.mk (blk_below (g := gb287) (o := .cells #[.slice A0_0 l0_0.length c0_0, .int .i64 a0_1, .int .i64 a0_2] 24 (0, 0)) (by (with_reducible repeat (first | refine blk_drewN ?_ _ | refine blk_drew ?_ | refine blk_alloc ?_ _)); refine blk_far ?_ NB287_319.out _; (with_reducible repeat (first | refine blk_drewN ?_ _ | refine blk_drew ?_ | refine blk_alloc ?_ _)); refine blk_far ?_ NB287_319.out _; (with_reducible repeat (first | refine blk_drewN ?_ _ | refine blk_drew ?_ | refine blk_alloc ?_ _)); refine blk_far ?_ NB287_319.out _; (with_reducible repeat (first | refine blk_drewN ?_ _ | refine blk_drew ?_ | refine blk_alloc ?_ _)); refine blk_far ?_ NB287_319.out _; (with_reducible repeat (first | refine blk_drewN ?_ _ | refine blk_drew ?_ | refine blk_alloc ?_ _)); refine blk_far ?_ NB287_319.out _; (with_reducible repeat (first | refine blk_drewN ?_ _ | refine blk_drew ?_ | refine blk_alloc ?_ _)); refine blk_far ?_ NB287_319.out _; (with_reducible repeat (first | refine blk_drewN ?_ _ | refine blk_drew ?_ | refine blk_alloc ?_ _)); exact BK287.out) hb); have n5_ := Aside0.mk (blk_below (g := gb303) (o := .cells #[.slice Ao20 t294.length co20, .int .i64 t297, .int .i64 t298, .string t299, .string t300, .int .i64 t301] 41 (0, 0)) (by (with_reducible repeat (first | refine blk_drewN ?_ _ | refine blk_drew ?_ | refine blk_alloc ?_ _)); refine blk_far ?_ NB303_319.out _; (with_reducible repeat (first | refine blk_drewN ?_ _ | refine blk_drew ?_ | refine blk_alloc ?_ _)); refine blk_far ?_ NB303_319.out _; (with_reducible repeat (first | refine blk_drewN ?_ _ | refine blk_drew ?_ | refine blk_alloc ?_ _)); refine blk_far ?_ NB303_319.out _; (with_reducible repeat (first | refine blk_drewN ?_ _ | refine blk_drew ?_ | refine blk_alloc ?_ _)); refine blk_far ?_ NB303_319.out _; (with_reducible repeat (first | refine blk_drewN ?_ _ | refine blk_drew ?_ | refine blk_alloc ?_ _)); refine blk_far ?_ NB303_319.out _; (with_reducible repeat (first | refine blk_drewN ?_ _ | refine blk_drew ?_ | refine blk_alloc ?_ _)); refine blk_far ?_ NB303_319.out _; (with_reducible repeat (first | refine blk_drewN ?_ _ | refine blk_drew ?_ | refine blk_alloc ?_ _)); exact BK303.out) hb); have n6_ := Aside0.mk (blk_below (g := gb309) (o := .cells #[.slice Ao26 t304.length co26, .int .i64 t307, .int .i64 t308] 27 (0, 0)) (by (with_reducible repeat (first | refine blk_drewN ?_ _ | refine blk_drew ?_ | refine blk_alloc ?_ _)); refine blk_far ?_ NB309_319.out _; (with_reducible repeat (first | refine blk_drewN ?_ _ | refine blk_drew ?_ | refine blk_alloc ?_ _)); refine blk_far ?_ NB309_319.out _; (with_reducible repeat (first | refine blk_drewN ?_ _ | refine blk_drew ?_ | refine blk_alloc ?_ _)); refine blk_far ?_ NB309_319.out _; (with_reducible repeat (first | refine blk_drewN ?_ _ | refine blk_drew ?_ | refine blk_alloc ?_ _)); refine blk_far ?_ NB309_319.out _; (with_reducible repeat (first | refine blk_drewN ?_ _ | refine blk_drew ?_ | refine blk_alloc ?_ _)); refine blk_far ?_ NB309_319.out _; (with_reducible repeat (first | refine blk_drewN ?_ _ | refine blk_drew ?_ | refine blk_alloc ?_ _)); refine blk_far ?_ NB309_319.out _; (with_reducible repeat (first | refine blk_drewN ?_ _ | refine blk_drew ?_ | refine blk_alloc ?_ _)); exact BK309.out) hb); have n7_ := Aside0.mk (blk_below (g := gb319) (o := .cells #[.slice Ao32 t310.length co32, .int .i64 t313, .int .i64 t314, .string t315, .string t316, .int .i64 t317] 41 (0, 0)) (by (with_reducible repeat (first | refine blk_drewN ?_ _ | refine blk_drew ?_ | refine blk_alloc ?_ _)); refine blk_put (cs := #[.slice Ao32 t310.length co32, .int .i64 t313, .int .i64 t314, .string t315, .string t316, .int .i64 0]) ?_ 5 _ rfl; (with_reducible repeat (first | refine blk_drewN ?_ _ | refine blk_drew ?_ | refine blk_alloc ?_ _)); refine blk_put (cs := #[.slice Ao32 t310.length co32, .int .i64 t313, .int .i64 t314, .string t315, .string (⟨#[]⟩ : ByteArray), .int .i64 0]) ?_ 4 _ rfl; (with_reducible repeat (first | refine blk_drewN ?_ _ | refine blk_drew ?_ | refine blk_alloc ?_ _)); refine blk_put (cs := #[.slice Ao32 t310.length co32, .int .i64 t313, .int .i64 t314, .string (⟨#[]⟩ : ByteArray), .string (⟨#[]⟩ : ByteArray), .int .i64 0]) ?_ 3 _ rfl; (with_reducible repeat (first | refine blk_drewN ?_ _ | refine blk_drew ?_ | refine blk_alloc ?_ _)); refine blk_put (cs := #[.slice Ao32 t310.length co32, .int .i64 t313, .int .i64 0, .string (⟨#[]⟩ : ByteArray), .string (⟨#[]⟩ : ByteArray), .int .i64 0]) ?_ 2 _ rfl; (with_reducible repeat (first | refine blk_drewN ?_ _ | refine blk_drew ?_ | refine blk_alloc ?_ _)); refine blk_put (cs := #[.slice Ao32 t310.length co32, .int .i64 0, .int .i64 0, .string (⟨#[]⟩ : ByteArray), .string (⟨#[]⟩ : ByteArray), .int .i64 0]) ?_ 1 _ rfl; (with_reducible repeat (first | refine blk_drewN ?_ _ | refine blk_drew ?_ | refine blk_alloc ?_ _)); refine blk_put (cs := #[.slice none 0 0, .int .i64 0, .int .i64 0, .string (⟨#[]⟩ : ByteArray), .string (⟨#[]⟩ : ByteArray), .int .i64 0]) ?_ 0 _ rfl; (with_reducible repeat (first | refine blk_drewN ?_ _ | refine blk_drew ?_ | refine blk_alloc ?_ _)); exact BK319.out) hb); have n8_ := Aside0.mk (below_step (by repeat (first | (with_reducible first | exact HB.out | apply below_alloc | apply pw_below_drewN | apply below_drew1 | refine below_set ?_ GE287.out | refine below_set ?_ GE303.out | refine below_set ?_ GE309.out | refine below_set ?_ GE319.out) | exact HB.out)) hb); clear HO291; clear HO296; clear HO306; clear HO312; clear BK287; clear BK303; clear BK309; clear BK319; clear HB; have HO291 := n0_; have HO296 := n1_; have HO306 := n2_; have HO312 := n3_; have BK287 := n4_; have BK303 := n5_; have BK309 := n6_; have BK319 := n7_; have HB := n8_; clear n0_ n1_ n2_ n3_ n4_ n5_ n6_ n7_ n8_; (try clear hb); (try clear hb2); (try clear hk); (try clear hi)))
        go_meet
        case rel => exact ⟨_, ((t318 != t302)), (by first | rfl | (simp; done) | (simp [*]; done)), H', ⟨by first | omega | exact Nat.le_refl _⟩, ⟨by (with_reducible repeat (first | apply Kd.R_alloc | apply Kd.R_drewN | apply Kd.R_drew)); exact Kd.R_mono HO296.out (fun _ hk => ⟨hk.1.2, hk.2⟩)⟩, ⟨by (with_reducible repeat (first | apply Kd.R_alloc | apply Kd.R_drewN | apply Kd.R_drew)); exact Kd.R_mono HO306.out (fun _ hk => ⟨hk.1.2, hk.2⟩)⟩, ⟨by (with_reducible repeat (first | apply Kd.R_alloc | apply Kd.R_drewN | apply Kd.R_drew)); exact Kd.R_mono HO312.out (fun _ hk => ⟨hk.1.2, hk.2⟩)⟩, ⟨by (with_reducible repeat (first | refine blk_drewN ?_ _ | refine blk_drew ?_ | refine blk_alloc ?_ _)); exact BK287.out⟩, ⟨by (with_reducible repeat (first | refine blk_drewN ?_ _ | refine blk_drew ?_ | refine blk_alloc ?_ _)); exact BK303.out⟩, ⟨by (with_reducible repeat (first | refine blk_drewN ?_ _ | refine blk_drew ?_ | refine blk_alloc ?_ _)); exact BK309.out⟩, ⟨by (with_reducible repeat (first | refine blk_drewN ?_ _ | refine blk_drew ?_ | refine blk_alloc ?_ _)); exact BK319.out⟩, ⟨by repeat (first | (with_reducible first | exact HB.out | apply below_alloc | apply pw_below_drewN | apply below_drew1 | refine below_set ?_ GE287.out | refine below_set ?_ GE303.out | refine below_set ?_ GE309.out | refine below_set ?_ GE319.out) | exact HB.out)⟩⟩
      · replace c38 := Bool.eq_false_iff.mpr c38
        subst c38
        have H1 : (laws_FnExactNewConsole.j0 k t302 t318 true l0_0 a0_1 a0_2 t294 t297 t298 t299 t300 t301 t304 t307 t308 t310 t313 t314 t315 t316 t317) = some r := by rw [if_neg (show ¬ (false = true) by decide)] at H; exact H
        clear H
        have H := H1
        clear H1
        have H' := Aside0.mk H
        clear H
        have hnb47 := NB319_287.out
        have hnc47 := NB287_319.out
        have hnb48 := NB319_303.out
        have hnc48 := NB303_319.out
        have hnb49 := NB319_309.out
        have hnc49 := NB309_319.out
        have hcz50_0 : w31.cell? ⟨gb319, 0, none⟩ = some (.slice none 0 0) := (blk_cell BK319.out 0).trans rfl
        have hcz50_1 : w31.cell? ⟨gb319, 1, none⟩ = some (.int .i64 0) := (blk_cell BK319.out 1).trans rfl
        have hcz50_2 : w31.cell? ⟨gb319, 2, none⟩ = some (.int .i64 0) := (blk_cell BK319.out 2).trans rfl
        have hcz50_3 : w31.cell? ⟨gb319, 3, none⟩ = some (.string (⟨#[]⟩ : ByteArray)) := (blk_cell BK319.out 3).trans rfl
        have hcz50_4 : w31.cell? ⟨gb319, 4, none⟩ = some (.string (⟨#[]⟩ : ByteArray)) := (blk_cell BK319.out 4).trans rfl
        have hcz50_5 : w31.cell? ⟨gb319, 5, none⟩ = some (.int .i64 0) := (blk_cell BK319.out 5).trans rfl
        have hfz50_0 := blk_frozen BK319.out 0
        have hfz50_1 := blk_frozen BK319.out 1
        have hfz50_2 := blk_frozen BK319.out 2
        have hfz50_3 := blk_frozen BK319.out 3
        have hfz50_4 := blk_frozen BK319.out 4
        have hfz50_5 := blk_frozen BK319.out 5
        have hnb51 := NB303_287.out
        have hnc51 := NB287_303.out
        have hnb52 := NB303_309.out
        have hnc52 := NB309_303.out
        have hcz53_0 : w31.cell? ⟨gb303, 0, none⟩ = some (.slice Ao20 t294.length co20) := (blk_cell BK303.out 0).trans rfl
        have hcz53_1 : w31.cell? ⟨gb303, 1, none⟩ = some (.int .i64 t297) := (blk_cell BK303.out 1).trans rfl
        have hcz53_2 : w31.cell? ⟨gb303, 2, none⟩ = some (.int .i64 t298) := (blk_cell BK303.out 2).trans rfl
        have hcz53_3 : w31.cell? ⟨gb303, 3, none⟩ = some (.string t299) := (blk_cell BK303.out 3).trans rfl
        have hcz53_4 : w31.cell? ⟨gb303, 4, none⟩ = some (.string t300) := (blk_cell BK303.out 4).trans rfl
        have hcz53_5 : w31.cell? ⟨gb303, 5, none⟩ = some (.int .i64 t301) := (blk_cell BK303.out 5).trans rfl
        have hfz53_0 := blk_frozen BK303.out 0
        have hfz53_1 := blk_frozen BK303.out 1
        have hfz53_2 := blk_frozen BK303.out 2
        have hfz53_3 := blk_frozen BK303.out 3
        have hfz53_4 := blk_frozen BK303.out 4
        have hfz53_5 := blk_frozen BK303.out 5
        go_wp2_with (first | ((with_reducible refine gate_callee (f := 29) rfl ?_); refine goesL_ (some 34) rfl rfl Try.func29 (by kernel_rfl) rfl #[.agg #[.slice Ao32 t310.length co32, .int .i64 t313, .int .i64 t314, .string t315, .string t316, .int .i64 t317], .agg #[.slice Ao20 t294.length co20, .int .i64 t297, .int .i64 t298, .string t299, .string t300, .int .i64 t301]] rfl (by (try simp only [List.map_toArray, List.map_cons, List.map_nil]); first | done | rfl | (simp only [List.length_drop, List.length_take]; rfl)) ?_; (with_reducible refine (laws_eqConsole.calls k _ _ t310 t313 t314 t315 t316 t317 _ _ t294 t297 t298 t299 t300 t301 false _ ?side1 ?side2 ?side3 ?side4 A37.out).mono ?_); (case side1 => refine (Kd.R_reads' (e := 3) (base := w.heap.size) (ok := fun k_ => (((True ∧ some k_ ≠ (.slice Ao17 t289.length co17 : Value).ownBlock) ∧ some k_ ≠ (.slice Ao20 t294.length co20 : Value).ownBlock) ∧ some k_ ≠ (.slice Ao26 t304.length co26 : Value).ownBlock)) (n := t310.length) (c := co32) ?_).2.2; exact (by (with_reducible repeat (first | apply Kd.R_alloc | apply Kd.R_drewN | apply Kd.R_drew)); exact (Kd.R_mono (Kd.R_far (p := ⟨gb319, 5, none⟩) (Kd.R_far (p := ⟨gb319, 4, none⟩) (Kd.R_far (p := ⟨gb319, 3, none⟩) (Kd.R_far (p := ⟨gb319, 2, none⟩) (Kd.R_far (p := ⟨gb319, 1, none⟩) (Kd.R_far (p := ⟨gb319, 0, none⟩) (Kd.R_types HO312.out BK319.out (by decide)) (fun _ hk => hk.2) (.slice Ao32 t310.length co32)) (fun _ hk => hk.2) (.int .i64 t313)) (fun _ hk => hk.2) (.int .i64 t314)) (fun _ hk => hk.2) (.string t315)) (fun _ hk => hk.2) (.string t316)) (fun _ hk => hk.2) (.int .i64 t317)) (fun _ h_ => h_.1)))); (case side2 => exact (Kd.R_reads' HO312.out).2.1); (case side3 => refine (Kd.R_reads' (e := 3) (base := w.heap.size) (ok := fun k_ => (((True ∧ some k_ ≠ (.slice Ao17 t289.length co17 : Value).ownBlock) ∧ some k_ ≠ (.slice Ao26 t304.length co26 : Value).ownBlock) ∧ some k_ ≠ (.slice Ao32 t310.length co32 : Value).ownBlock)) (n := t294.length) (c := co20) ?_).2.2; exact (by (with_reducible repeat (first | apply Kd.R_alloc | apply Kd.R_drewN | apply Kd.R_drew)); exact (Kd.R_mono (Kd.R_far (p := ⟨gb319, 5, none⟩) (Kd.R_far (p := ⟨gb319, 4, none⟩) (Kd.R_far (p := ⟨gb319, 3, none⟩) (Kd.R_far (p := ⟨gb319, 2, none⟩) (Kd.R_far (p := ⟨gb319, 1, none⟩) (Kd.R_far (p := ⟨gb319, 0, none⟩) (Kd.R_types HO296.out BK319.out (by decide)) (fun _ hk => hk.2) (.slice Ao32 t310.length co32)) (fun _ hk => hk.2) (.int .i64 t313)) (fun _ hk => hk.2) (.int .i64 t314)) (fun _ hk => hk.2) (.string t315)) (fun _ hk => hk.2) (.string t316)) (fun _ hk => hk.2) (.int .i64 t317)) (fun _ h_ => h_.1)))); (case side4 => exact (Kd.R_reads' HO296.out).2.1); rintro e w54 ⟨rfl, hb⟩; refine ⟨_, rfl, ?_⟩; have n0_ := Aside0.mk (Kd.R_below (by (with_reducible repeat (first | apply Kd.R_alloc | apply Kd.R_drewN | apply Kd.R_drew)); exact (Kd.R_mono (Kd.R_far (p := ⟨gb319, 5, none⟩) (Kd.R_far (p := ⟨gb319, 4, none⟩) (Kd.R_far (p := ⟨gb319, 3, none⟩) (Kd.R_far (p := ⟨gb319, 2, none⟩) (Kd.R_far (p := ⟨gb319, 1, none⟩) (Kd.R_far (p := ⟨gb319, 0, none⟩) (Kd.R_types HO291.out BK319.out (by decide)) (fun _ hk => hk.2) (.slice Ao32 t310.length co32)) (fun _ hk => hk.2) (.int .i64 t313)) (fun _ hk => hk.2) (.int .i64 t314)) (fun _ hk => hk.2) (.string t315)) (fun _ hk => hk.2) (.string t316)) (fun _ hk => hk.2) (.int .i64 t317)) (fun _ h_ => h_.1))) hb); have n1_ := Aside0.mk (Kd.R_below (by (with_reducible repeat (first | apply Kd.R_alloc | apply Kd.R_drewN | apply Kd.R_drew)); exact (Kd.R_mono (Kd.R_far (p := ⟨gb319, 5, none⟩) (Kd.R_far (p := ⟨gb319, 4, none⟩) (Kd.R_far (p := ⟨gb319, 3, none⟩) (Kd.R_far (p := ⟨gb319, 2, none⟩) (Kd.R_far (p := ⟨gb319, 1, none⟩) (Kd.R_far (p := ⟨gb319, 0, none⟩) (Kd.R_types HO296.out BK319.out (by decide)) (fun _ hk => hk.2) (.slice Ao32 t310.length co32)) (fun _ hk => hk.2) (.int .i64 t313)) (fun _ hk => hk.2) (.int .i64 t314)) (fun _ hk => hk.2) (.string t315)) (fun _ hk => hk.2) (.string t316)) (fun _ hk => hk.2) (.int .i64 t317)) (fun _ h_ => h_.1))) hb); have n2_ := Aside0.mk (Kd.R_below (by (with_reducible repeat (first | apply Kd.R_alloc | apply Kd.R_drewN | apply Kd.R_drew)); exact (Kd.R_mono (Kd.R_far (p := ⟨gb319, 5, none⟩) (Kd.R_far (p := ⟨gb319, 4, none⟩) (Kd.R_far (p := ⟨gb319, 3, none⟩) (Kd.R_far (p := ⟨gb319, 2, none⟩) (Kd.R_far (p := ⟨gb319, 1, none⟩) (Kd.R_far (p := ⟨gb319, 0, none⟩) (Kd.R_types HO306.out BK319.out (by decide)) (fun _ hk => hk.2) (.slice Ao32 t310.length co32)) (fun _ hk => hk.2) (.int .i64 t313)) (fun _ hk => hk.2) (.int .i64 t314)) (fun _ hk => hk.2) (.string t315)) (fun _ hk => hk.2) (.string t316)) (fun _ hk => hk.2) (.int .i64 t317)) (fun _ h_ => h_.1))) hb); have n3_ := Aside0.mk (Kd.R_below (by (with_reducible repeat (first | apply Kd.R_alloc | apply Kd.R_drewN | apply Kd.R_drew)); exact (Kd.R_mono (Kd.R_far (p := ⟨gb319, 5, none⟩) (Kd.R_far (p := ⟨gb319, 4, none⟩) (Kd.R_far (p := ⟨gb319, 3, none⟩) (Kd.R_far (p := ⟨gb319, 2, none⟩) (Kd.R_far (p := ⟨gb319, 1, none⟩) (Kd.R_far (p := ⟨gb319, 0, none⟩) (Kd.R_types HO312.out BK319.out (by decide)) (fun _ hk => hk.2) (.slice Ao32 t310.length co32)) (fun _ hk => hk.2) (.int .i64 t313)) (fun _ hk => hk.2) (.int .i64 t314)) (fun _ hk => hk.2) (.string t315)) (fun _ hk => hk.2) (.string t316)) (fun _ hk => hk.2) (.int .i64 t317)) (fun _ h_ => h_.1))) hb); have n4_ := Aside0.mk (blk_below (g := gb287) (o := .cells #[.slice A0_0 l0_0.length c0_0, .int .i64 a0_1, .int .i64 a0_2] 24 (0, 0)) (by (with_reducible repeat (first | refine blk_drewN ?_ _ | refine blk_drew ?_ | refine blk_alloc ?_ _)); refine blk_far ?_ NB287_319.out _; (with_reducible repeat (first | refine blk_drewN ?_ _ | refine blk_drew ?_ | refine blk_alloc ?_ _)); refine blk_far ?_ NB287_319.out _; (with_reducible repeat (first | refine blk_drewN ?_ _ | refine blk_drew ?_ | refine blk_alloc ?_ _)); refine blk_far ?_ NB287_319.out _; (with_reducible repeat (first | refine blk_drewN ?_ _ | refine blk_drew ?_ | refine blk_alloc ?_ _)); refine blk_far ?_ NB287_319.out _; (with_reducible repeat (first | refine blk_drewN ?_ _ | refine blk_drew ?_ | refine blk_alloc ?_ _)); refine blk_far ?_ NB287_319.out _; (with_reducible repeat (first | refine blk_drewN ?_ _ | refine blk_drew ?_ | refine blk_alloc ?_ _)); refine blk_far ?_ NB287_319.out _; (with_reducible repeat (first | refine blk_drewN ?_ _ | refine blk_drew ?_ | refine blk_alloc ?_ _)); exact BK287.out) hb); have n5_ := Aside0.mk (blk_below (g := gb303) (o := .cells #[.slice Ao20 t294.length co20, .int .i64 t297, .int .i64 t298, .string t299, .string t300, .int .i64 t301] 41 (0, 0)) (by (with_reducible repeat (first | refine blk_drewN ?_ _ | refine blk_drew ?_ | refine blk_alloc ?_ _)); refine blk_far ?_ NB303_319.out _; (with_reducible repeat (first | refine blk_drewN ?_ _ | refine blk_drew ?_ | refine blk_alloc ?_ _)); refine blk_far ?_ NB303_319.out _; (with_reducible repeat (first | refine blk_drewN ?_ _ | refine blk_drew ?_ | refine blk_alloc ?_ _)); refine blk_far ?_ NB303_319.out _; (with_reducible repeat (first | refine blk_drewN ?_ _ | refine blk_drew ?_ | refine blk_alloc ?_ _)); refine blk_far ?_ NB303_319.out _; (with_reducible repeat (first | refine blk_drewN ?_ _ | refine blk_drew ?_ | refine blk_alloc ?_ _)); refine blk_far ?_ NB303_319.out _; (with_reducible repeat (first | refine blk_drewN ?_ _ | refine blk_drew ?_ | refine blk_alloc ?_ _)); refine blk_far ?_ NB303_319.out _; (with_reducible repeat (first | refine blk_drewN ?_ _ | refine blk_drew ?_ | refine blk_alloc ?_ _)); exact BK303.out) hb); have n6_ := Aside0.mk (blk_below (g := gb309) (o := .cells #[.slice Ao26 t304.length co26, .int .i64 t307, .int .i64 t308] 27 (0, 0)) (by (with_reducible repeat (first | refine blk_drewN ?_ _ | refine blk_drew ?_ | refine blk_alloc ?_ _)); refine blk_far ?_ NB309_319.out _; (with_reducible repeat (first | refine blk_drewN ?_ _ | refine blk_drew ?_ | refine blk_alloc ?_ _)); refine blk_far ?_ NB309_319.out _; (with_reducible repeat (first | refine blk_drewN ?_ _ | refine blk_drew ?_ | refine blk_alloc ?_ _)); refine blk_far ?_ NB309_319.out _; (with_reducible repeat (first | refine blk_drewN ?_ _ | refine blk_drew ?_ | refine blk_alloc ?_ _)); refine blk_far ?_ NB309_319.out _; (with_reducible repeat (first | refine blk_drewN ?_ _ | refine blk_drew ?_ | refine blk_alloc ?_ _)); refine blk_far ?_ NB309_319.out _; (with_reducible repeat (first | refine blk_drewN ?_ _ | refine blk_drew ?_ | refine blk_alloc ?_ _)); refine blk_far ?_ NB309_319.out _; (with_reducible repeat (first | refine blk_drewN ?_ _ | refine blk_drew ?_ | refine blk_alloc ?_ _)); exact BK309.out) hb); have n7_ := Aside0.mk (blk_below (g := gb319) (o := .cells #[.slice Ao32 t310.length co32, .int .i64 t313, .int .i64 t314, .string t315, .string t316, .int .i64 t317] 41 (0, 0)) (by (with_reducible repeat (first | refine blk_drewN ?_ _ | refine blk_drew ?_ | refine blk_alloc ?_ _)); refine blk_put (cs := #[.slice Ao32 t310.length co32, .int .i64 t313, .int .i64 t314, .string t315, .string t316, .int .i64 0]) ?_ 5 _ rfl; (with_reducible repeat (first | refine blk_drewN ?_ _ | refine blk_drew ?_ | refine blk_alloc ?_ _)); refine blk_put (cs := #[.slice Ao32 t310.length co32, .int .i64 t313, .int .i64 t314, .string t315, .string (⟨#[]⟩ : ByteArray), .int .i64 0]) ?_ 4 _ rfl; (with_reducible repeat (first | refine blk_drewN ?_ _ | refine blk_drew ?_ | refine blk_alloc ?_ _)); refine blk_put (cs := #[.slice Ao32 t310.length co32, .int .i64 t313, .int .i64 t314, .string (⟨#[]⟩ : ByteArray), .string (⟨#[]⟩ : ByteArray), .int .i64 0]) ?_ 3 _ rfl; (with_reducible repeat (first | refine blk_drewN ?_ _ | refine blk_drew ?_ | refine blk_alloc ?_ _)); refine blk_put (cs := #[.slice Ao32 t310.length co32, .int .i64 t313, .int .i64 0, .string (⟨#[]⟩ : ByteArray), .string (⟨#[]⟩ : ByteArray), .int .i64 0]) ?_ 2 _ rfl; (with_reducible repeat (first | refine blk_drewN ?_ _ | refine blk_drew ?_ | refine blk_alloc ?_ _)); refine blk_put (cs := #[.slice Ao32 t310.length co32, .int .i64 0, .int .i64 0, .string (⟨#[]⟩ : ByteArray), .string (⟨#[]⟩ : ByteArray), .int .i64 0]) ?_ 1 _ rfl; (with_reducible repeat (first | refine blk_drewN ?_ _ | refine blk_drew ?_ | refine blk_alloc ?_ _)); refine blk_put (cs := #[.slice none 0 0, .int .i64 0, .int .i64 0, .string (⟨#[]⟩ : ByteArray), .string (⟨#[]⟩ : ByteArray), .int .i64 0]) ?_ 0 _ rfl; (with_reducible repeat (first | refine blk_drewN ?_ _ | refine blk_drew ?_ | refine blk_alloc ?_ _)); exact BK319.out) hb); have n8_ := Aside0.mk (below_step (by repeat (first | (with_reducible first | exact HB.out | apply below_alloc | apply pw_below_drewN | apply below_drew1 | refine below_set ?_ GE287.out | refine below_set ?_ GE303.out | refine below_set ?_ GE309.out | refine below_set ?_ GE319.out) | exact HB.out)) hb); clear HO291; clear HO296; clear HO306; clear HO312; clear BK287; clear BK303; clear BK309; clear BK319; clear HB; have HO291 := n0_; have HO296 := n1_; have HO306 := n2_; have HO312 := n3_; have BK287 := n4_; have BK303 := n5_; have BK309 := n6_; have BK319 := n7_; have HB := n8_; clear n0_ n1_ n2_ n3_ n4_ n5_ n6_ n7_ n8_; (try clear hb); (try clear hb2); (try clear hk); (try clear hi)))
        go_meet
        case rel => exact ⟨_, (true), (by first | rfl | (simp; done) | (simp [*]; done)), H', ⟨by first | omega | exact Nat.le_refl _⟩, ⟨by (with_reducible repeat (first | apply Kd.R_alloc | apply Kd.R_drewN | apply Kd.R_drew)); exact Kd.R_mono HO296.out (fun _ hk => ⟨hk.1.2, hk.2⟩)⟩, ⟨by (with_reducible repeat (first | apply Kd.R_alloc | apply Kd.R_drewN | apply Kd.R_drew)); exact Kd.R_mono HO306.out (fun _ hk => ⟨hk.1.2, hk.2⟩)⟩, ⟨by (with_reducible repeat (first | apply Kd.R_alloc | apply Kd.R_drewN | apply Kd.R_drew)); exact Kd.R_mono HO312.out (fun _ hk => ⟨hk.1.2, hk.2⟩)⟩, ⟨by (with_reducible repeat (first | refine blk_drewN ?_ _ | refine blk_drew ?_ | refine blk_alloc ?_ _)); exact BK287.out⟩, ⟨by (with_reducible repeat (first | refine blk_drewN ?_ _ | refine blk_drew ?_ | refine blk_alloc ?_ _)); exact BK303.out⟩, ⟨by (with_reducible repeat (first | refine blk_drewN ?_ _ | refine blk_drew ?_ | refine blk_alloc ?_ _)); exact BK309.out⟩, ⟨by (with_reducible repeat (first | refine blk_drewN ?_ _ | refine blk_drew ?_ | refine blk_alloc ?_ _)); exact BK319.out⟩, ⟨by repeat (first | (with_reducible first | exact HB.out | apply below_alloc | apply pw_below_drewN | apply below_drew1 | refine below_set ?_ GE287.out | refine below_set ?_ GE303.out | refine below_set ?_ GE309.out | refine below_set ?_ GE319.out) | exact HB.out)⟩⟩
    case rest =>
      clear HC11
      try clear c1
      try clear c2
      try clear p2
      try clear c3
      try clear c3b0
      try clear c4
      try clear c5
      try clear c15
      try clear c17
      try clear c21
      try clear c27
      try clear c28
      try clear c29
      try clear c33
      try clear c34
      try clear c35
      try clear c38
      try clear c39
      try clear c40
      try clear c41
      try clear c43
      try clear c44
      try clear c47
      try clear c48
      try clear c49
      try clear c51
      try clear c52
      try clear hcz13_0
      try clear hcz13_1
      try clear hcz13_2
      try clear hcz15_0
      try clear hcz15_1
      try clear hcz15_2
      try clear hcz22_0
      try clear hcz22_1
      try clear hcz22_2
      try clear hcz22_3
      try clear hcz22_4
      try clear hcz22_5
      try clear hcz23_0
      try clear hcz23_1
      try clear hcz23_2
      try clear hcz29_0
      try clear hcz29_1
      try clear hcz29_2
      try clear hcz36_0
      try clear hcz36_1
      try clear hcz36_2
      try clear hcz36_3
      try clear hcz36_4
      try clear hcz36_5
      try clear hcz42_0
      try clear hcz42_1
      try clear hcz42_2
      try clear hcz42_3
      try clear hcz42_4
      try clear hcz42_5
      try clear hcz45_0
      try clear hcz45_1
      try clear hcz45_2
      try clear hcz45_3
      try clear hcz45_4
      try clear hcz45_5
      try clear hcz50_0
      try clear hcz50_1
      try clear hcz50_2
      try clear hcz50_3
      try clear hcz50_4
      try clear hcz50_5
      try clear hcz53_0
      try clear hcz53_1
      try clear hcz53_2
      try clear hcz53_3
      try clear hcz53_4
      try clear hcz53_5
      try clear hcz5_0
      try clear hcz5_1
      try clear hcz5_2
      try clear hfz13_0
      try clear hfz13_1
      try clear hfz13_2
      try clear hfz15_0
      try clear hfz15_1
      try clear hfz15_2
      try clear hfz22_0
      try clear hfz22_1
      try clear hfz22_2
      try clear hfz22_3
      try clear hfz22_4
      try clear hfz22_5
      try clear hfz23_0
      try clear hfz23_1
      try clear hfz23_2
      try clear hfz29_0
      try clear hfz29_1
      try clear hfz29_2
      try clear hfz36_0
      try clear hfz36_1
      try clear hfz36_2
      try clear hfz36_3
      try clear hfz36_4
      try clear hfz36_5
      try clear hfz42_0
      try clear hfz42_1
      try clear hfz42_2
      try clear hfz42_3
      try clear hfz42_4
      try clear hfz42_5
      try clear hfz45_0
      try clear hfz45_1
      try clear hfz45_2
      try clear hfz45_3
      try clear hfz45_4
      try clear hfz45_5
      try clear hfz50_0
      try clear hfz50_1
      try clear hfz50_2
      try clear hfz50_3
      try clear hfz50_4
      try clear hfz50_5
      try clear hfz53_0
      try clear hfz53_1
      try clear hfz53_2
      try clear hfz53_3
      try clear hfz53_4
      try clear hfz53_5
      try clear hfz5_0
      try clear hfz5_1
      try clear hfz5_2
      obtain ⟨kq, x40_10, rfl, HA, HJ10, HO_304000, HO_310000, HO_320000, BK287, BK303, BK309, BK319, HB⟩ := hcut
      cases kq with
      | zero => exact absurd HA.out (by simp [laws_FnExactNewConsole.j0])
      | succ kj10 =>
        have H := HA.out
        clear HA
        simp only [laws_FnExactNewConsole.j0] at H
        by_cases c55 : x40_10 = true
        · subst c55
          have H1 : (some false) = some r := by rw [if_pos rfl] at H; exact H
          clear H
          have H := H1
          clear H1
          obtain rfl := Option.some.inj H
          go_wp2
          go_ret
          exact ⟨by first | rfl | (simp [errW_none, errW_some] <;> rfl) | (simp [*, errW_none, errW_some] <;> rfl), by repeat (first | (with_reducible first | exact HB.out | apply below_alloc | apply pw_below_drewN | apply below_drew1 | refine below_set ?_ GE287.out | refine below_set ?_ GE303.out | refine below_set ?_ GE309.out | refine below_set ?_ GE319.out) | exact HB.out)⟩
        · replace c55 := Bool.eq_false_iff.mpr c55
          subst c55
          have H1 : ((laws_toGallery.f kj10 l0_0 a0_1 a0_2).bind fun bt321 => ((laws_eqGallery.f kj10 t304 t307 t308 bt321.1 bt321.2.1 bt321.2.2).bind fun t326 => (if t326 = true then ((laws_markGallery.f kj10 t304 t307 t308 1).bind fun bt327 => (if bt327.1 < 0 then (laws_FnExactNewConsole.j1 kj10 t302 true l0_0 a0_1 a0_2 t294 t297 t298 t299 t300 t301 t310 t313 t314 t315 t316 t317) else ((laws_eqConsole.f kj10 t310 t313 t314 t315 t316 t317 t294 t297 t298 t299 t300 t301).bind fun t329 => (if t329 = true then (laws_FnExactNewConsole.j1 kj10 t302 (t318 != t302) l0_0 a0_1 a0_2 t294 t297 t298 t299 t300 t301 t310 t313 t314 t315 t316 t317) else (laws_FnExactNewConsole.j1 kj10 t302 true l0_0 a0_1 a0_2 t294 t297 t298 t299 t300 t301 t310 t313 t314 t315 t316 t317))))) else (some false)))) = some r := by rw [if_neg (show ¬ (false = true) by decide)] at H; exact H
          clear H
          have H := H1
          clear H1
          replace H := Option.bind_eq_some_iff.mp H
          obtain ⟨⟨t321, t324, t325⟩, A560, H⟩ := H
          replace H : ((laws_eqGallery.f kj10 t304 t307 t308 t321 t324 t325).bind fun t326 => (if t326 = true then ((laws_markGallery.f kj10 t304 t307 t308 1).bind fun bt327 => (if bt327.1 < 0 then (laws_FnExactNewConsole.j1 kj10 t302 true l0_0 a0_1 a0_2 t294 t297 t298 t299 t300 t301 t310 t313 t314 t315 t316 t317) else ((laws_eqConsole.f kj10 t310 t313 t314 t315 t316 t317 t294 t297 t298 t299 t300 t301).bind fun t329 => (if t329 = true then (laws_FnExactNewConsole.j1 kj10 t302 (t318 != t302) l0_0 a0_1 a0_2 t294 t297 t298 t299 t300 t301 t310 t313 t314 t315 t316 t317) else (laws_FnExactNewConsole.j1 kj10 t302 true l0_0 a0_1 a0_2 t294 t297 t298 t299 t300 t301 t310 t313 t314 t315 t316 t317))))) else (some false))) = some r := H
          have A56 := Aside0.mk A560
          clear A560
          replace H := Option.bind_eq_some_iff.mp H
          obtain ⟨t326, A570, H⟩ := H
          replace H : (if t326 = true then ((laws_markGallery.f kj10 t304 t307 t308 1).bind fun bt327 => (if bt327.1 < 0 then (laws_FnExactNewConsole.j1 kj10 t302 true l0_0 a0_1 a0_2 t294 t297 t298 t299 t300 t301 t310 t313 t314 t315 t316 t317) else ((laws_eqConsole.f kj10 t310 t313 t314 t315 t316 t317 t294 t297 t298 t299 t300 t301).bind fun t329 => (if t329 = true then (laws_FnExactNewConsole.j1 kj10 t302 (t318 != t302) l0_0 a0_1 a0_2 t294 t297 t298 t299 t300 t301 t310 t313 t314 t315 t316 t317) else (laws_FnExactNewConsole.j1 kj10 t302 true l0_0 a0_1 a0_2 t294 t297 t298 t299 t300 t301 t310 t313 t314 t315 t316 t317))))) else (some false)) = some r := H
          have A57 := Aside0.mk A570
          clear A570
          by_cases c58 : t326 = true
          · subst c58
            have H1 : ((laws_markGallery.f kj10 t304 t307 t308 1).bind fun bt327 => (if bt327.1 < 0 then (laws_FnExactNewConsole.j1 kj10 t302 true l0_0 a0_1 a0_2 t294 t297 t298 t299 t300 t301 t310 t313 t314 t315 t316 t317) else ((laws_eqConsole.f kj10 t310 t313 t314 t315 t316 t317 t294 t297 t298 t299 t300 t301).bind fun t329 => (if t329 = true then (laws_FnExactNewConsole.j1 kj10 t302 (t318 != t302) l0_0 a0_1 a0_2 t294 t297 t298 t299 t300 t301 t310 t313 t314 t315 t316 t317) else (laws_FnExactNewConsole.j1 kj10 t302 true l0_0 a0_1 a0_2 t294 t297 t298 t299 t300 t301 t310 t313 t314 t315 t316 t317))))) = some r := by rw [if_pos rfl] at H; exact H
            clear H
            have H := H1
            clear H1
            replace H := Option.bind_eq_some_iff.mp H
            obtain ⟨⟨t327, t328⟩, A590, H⟩ := H
            replace H : (if t327 < 0 then (laws_FnExactNewConsole.j1 kj10 t302 true l0_0 a0_1 a0_2 t294 t297 t298 t299 t300 t301 t310 t313 t314 t315 t316 t317) else ((laws_eqConsole.f kj10 t310 t313 t314 t315 t316 t317 t294 t297 t298 t299 t300 t301).bind fun t329 => (if t329 = true then (laws_FnExactNewConsole.j1 kj10 t302 (t318 != t302) l0_0 a0_1 a0_2 t294 t297 t298 t299 t300 t301 t310 t313 t314 t315 t316 t317) else (laws_FnExactNewConsole.j1 kj10 t302 true l0_0 a0_1 a0_2 t294 t297 t298 t299 t300 t301 t310 t313 t314 t315 t316 t317)))) = some r := H
            have A59 := Aside0.mk A590
            clear A590
            have HC60 := Aside0.mk H
            clear H
            try go_wp2
            have n0_ := Aside0.mk (Kd.R_drew HO_304000.out)
            have n1_ := Aside0.mk (Kd.R_drew HO_310000.out)
            have n2_ := Aside0.mk (Kd.R_drew HO_320000.out)
            have n3_ := Aside0.mk (blk_drew BK287.out)
            have n4_ := Aside0.mk (blk_drew BK303.out)
            have n5_ := Aside0.mk (blk_drew BK309.out)
            have n6_ := Aside0.mk (blk_drew BK319.out)
            have n7_ := Aside0.mk (below_drew1 HB.out)
            clear HO_304000
            clear HO_310000
            clear HO_320000
            clear BK287
            clear BK303
            clear BK309
            clear BK319
            clear HB
            have HO_304000 := n0_
            have HO_310000 := n1_
            have HO_320000 := n2_
            have BK287 := n3_
            have BK303 := n4_
            have BK309 := n5_
            have BK319 := n6_
            have HB := n7_
            clear n0_ n1_ n2_ n3_ n4_ n5_ n6_ n7_
            refine start_ (n := 5) (S := fun w' => w'.cell? ⟨gb309, 0, none⟩ = some (.slice Ao26 t304.length co26) ∧ w'.cell? ⟨gb309, 1, none⟩ = some (.int .i64 t307) ∧ w'.cell? ⟨gb309, 2, none⟩ = some (.int .i64 t308) ∧ w'.cell? ⟨gb287, 0, none⟩ = some (.slice A0_0 l0_0.length c0_0) ∧ w'.cell? ⟨gb287, 1, none⟩ = some (.int .i64 a0_1) ∧ w'.cell? ⟨gb287, 2, none⟩ = some (.int .i64 a0_2)) (ds := []) #[false, false, false, false, false] (by kernel_rfl) rfl rfl ⟨(blk_cell BK309.out 0).trans rfl, (blk_cell BK309.out 1).trans rfl, (blk_cell BK309.out 2).trans rfl, (blk_cell BK287.out 0).trans rfl, (blk_cell BK287.out 1).trans rfl, (blk_cell BK287.out 2).trans rfl⟩ (fun hHeld => ?_)
            generalize wc.drew = w61 at HO_304000 HO_310000 HO_320000 BK287 BK303 BK309 BK319 HB hHeld ⊢
            refine take_ (i := 0) (N := some 41) (v := ?_) (a' := ?_) #[true, false, false, false, false] rfl rfl (by kernel_rfl) (fun _ _ _ h => h) (Or.inl ⟨by rfl, ?_⟩) hHeld ?_ ?_
            rotate_left
            · rintro w' ⟨s0, s1, s2, s3, s4, s5⟩
              go_simp
              with_reducible rfl
            rotate_left
            · simp only [Act.put, List.setIfInBounds_toArray, List.set_cons_zero, List.set_cons_succ, i64_w, i32_w]
              rfl
            refine take_ (i := 1) (N := some 42) (v := ?_) (a' := ?_) #[true, true, false, false, false] rfl rfl (by kernel_rfl) (fun _ _ _ h => h) (Or.inl ⟨by rfl, ?_⟩) hHeld ?_ ?_
            rotate_left
            · rintro w' ⟨s0, s1, s2, s3, s4, s5⟩
              go_simp
              with_reducible rfl
            rotate_left
            · simp only [Act.put, List.setIfInBounds_toArray, List.set_cons_zero, List.set_cons_succ, i64_w, i32_w]
              rfl
            refine one_ (i := 2) (N := some 43) #[true, true, true, false, false] rfl rfl (by kernel_rfl) (by decide) (fun K hK => ?_)
            refine goes_ Try.func17 (by kernel_rfl) rfl #[.agg #[.slice A0_0 l0_0.length c0_0, .int .i64 a0_1, .int .i64 a0_2]] (by rfl) rfl rfl (by (try simp only [List.map_toArray, List.map_cons, List.map_nil]); first | done | rfl | (simp only [List.length_drop, List.length_take]; rfl)) ?_
            with_reducible refine (laws_toGallery.calls kj10 _ _ l0_0 a0_1 a0_2 t321 t324 t325 _ ?side1 ?side2 A56.out).mono ?_
            (case side1 => repeat (first | exact (Kd.C_below HR0_0.out HB.out) | (with_reducible refine Kd.C_alloc ?_ _) | (with_reducible refine Kd.C_drewN ?_ _) | (with_reducible refine Kd.C_drew ?_)))
            (case side2 => exact HC0_0.out)
            rintro e w62 ⟨v322, rfl, ho0, hb⟩
            refine ⟨_, rfl, ?_⟩
            have n0_ := Aside0.mk (Kd.R_elder' (by (with_reducible repeat (first | apply Kd.R_alloc | apply Kd.R_drewN | apply Kd.R_drew)); exact HO_304000.out) (Kd.R_base ho0) hb)
            have n1_ := Aside0.mk (Kd.R_elder' (by (with_reducible repeat (first | apply Kd.R_alloc | apply Kd.R_drewN | apply Kd.R_drew)); exact HO_310000.out) (Kd.R_base ho0) hb)
            have n2_ := Aside0.mk (Kd.R_elder' (by (with_reducible repeat (first | apply Kd.R_alloc | apply Kd.R_drewN | apply Kd.R_drew)); exact HO_320000.out) (Kd.R_base ho0) hb)
            have n3_ := Aside0.mk (Kd.R_lower (Kd.R_new' (Kd.R_new' (Kd.R_new' ho0 (Kd.R_lt (by (with_reducible repeat (first | apply Kd.R_alloc | apply Kd.R_drewN | apply Kd.R_drew)); exact HO_304000.out))) (Kd.R_lt (by (with_reducible repeat (first | apply Kd.R_alloc | apply Kd.R_drewN | apply Kd.R_drew)); exact HO_310000.out))) (Kd.R_lt (by (with_reducible repeat (first | apply Kd.R_alloc | apply Kd.R_drewN | apply Kd.R_drew)); exact HO_320000.out))) (below_size (by repeat (first | (with_reducible first | exact HB.out | apply below_alloc | apply pw_below_drewN | apply below_drew1 | refine below_set ?_ GE287.out | refine below_set ?_ GE303.out | refine below_set ?_ GE309.out | refine below_set ?_ GE319.out) | exact HB.out))))
            have n4_ := Aside0.mk (blk_below (g := gb287) (o := .cells #[.slice A0_0 l0_0.length c0_0, .int .i64 a0_1, .int .i64 a0_2] 24 (0, 0)) (by (with_reducible repeat (first | refine blk_drewN ?_ _ | refine blk_drew ?_ | refine blk_alloc ?_ _)); exact BK287.out) hb)
            have n5_ := Aside0.mk (blk_below (g := gb303) (o := .cells #[.slice Ao20 t294.length co20, .int .i64 t297, .int .i64 t298, .string t299, .string t300, .int .i64 t301] 41 (0, 0)) (by (with_reducible repeat (first | refine blk_drewN ?_ _ | refine blk_drew ?_ | refine blk_alloc ?_ _)); exact BK303.out) hb)
            have n6_ := Aside0.mk (blk_below (g := gb309) (o := .cells #[.slice Ao26 t304.length co26, .int .i64 t307, .int .i64 t308] 27 (0, 0)) (by (with_reducible repeat (first | refine blk_drewN ?_ _ | refine blk_drew ?_ | refine blk_alloc ?_ _)); exact BK309.out) hb)
            have n7_ := Aside0.mk (blk_below (g := gb319) (o := .cells #[.slice Ao32 t310.length co32, .int .i64 t313, .int .i64 t314, .string t315, .string t316, .int .i64 t317] 41 (0, 0)) (by (with_reducible repeat (first | refine blk_drewN ?_ _ | refine blk_drew ?_ | refine blk_alloc ?_ _)); exact BK319.out) hb)
            have n8_ := Aside0.mk (below_step (by repeat (first | (with_reducible first | exact HB.out | apply below_alloc | apply pw_below_drewN | apply below_drew1 | refine below_set ?_ GE287.out | refine below_set ?_ GE303.out | refine below_set ?_ GE309.out | refine below_set ?_ GE319.out) | exact HB.out)) hb)
            clear HO_304000
            clear HO_310000
            clear HO_320000
            clear BK287
            clear BK303
            clear BK309
            clear BK319
            clear HB
            have HO_304000 := n0_
            have HO_310000 := n1_
            have HO_320000 := n2_
            have HO323 := n3_
            have BK287 := n4_
            have BK303 := n5_
            have BK309 := n6_
            have BK319 := n7_
            have HB := n8_
            clear n0_ n1_ n2_ n3_ n4_ n5_ n6_ n7_ n8_
            (try clear hb)
            (try clear hb2)
            (try clear hk)
            (try clear hi)
            (try clear ho0)
            obtain ⟨Ao63, co63, eo63⟩ := Kd.R_slice HO323.out
            (first | subst eo63 | (injection eo63 with f1_ f2_ f3_; have f4_ := f1_.symm; have f5_ := f3_.symm; clear f1_ f2_ f3_; subst f4_; subst f5_))
            refine hK.out _ _ ⟨(blk_cell BK309.out 0).trans rfl, (blk_cell BK309.out 1).trans rfl, (blk_cell BK309.out 2).trans rfl, (blk_cell BK287.out 0).trans rfl, (blk_cell BK287.out 1).trans rfl, (blk_cell BK287.out 2).trans rfl⟩ (fun hHeld => ?_)
            clear hK K
            refine norm_ (a' := ?_) ?_ ?_
            rotate_left
            · show Act.put _ (some 43) _ = _
              simp only [Act.put, List.setIfInBounds_toArray, List.set_cons_zero, List.set_cons_succ, i64_w, i32_w]
              rfl
            refine one_ (i := 3) (N := some 44) #[true, true, true, true, false] rfl rfl (by kernel_rfl) (by decide) (fun K hK => ?_)
            refine goes_ Try.func19 (by kernel_rfl) rfl #[.agg #[.slice Ao26 t304.length co26, .int .i64 t307, .int .i64 t308], .agg #[.slice Ao63 t321.length co63, .int .i64 t324, .int .i64 t325]] (by rfl) rfl rfl (by (try simp only [List.map_toArray, List.map_cons, List.map_nil]); first | done | rfl | (simp only [List.length_drop, List.length_take]; rfl)) ?_
            with_reducible refine (laws_eqGallery.calls kj10 _ _ t304 t307 t308 _ _ t321 t324 t325 true _ ?side1 ?side2 ?side3 ?side4 A57.out).mono ?_
            (case side1 => repeat (first | exact (Kd.R_reads' HO_310000.out).2.2 | (with_reducible refine Kd.C_alloc ?_ _) | (with_reducible refine Kd.C_drewN ?_ _) | (with_reducible refine Kd.C_drew ?_)))
            (case side2 => exact (Kd.R_reads' HO_310000.out).2.1)
            (case side3 => repeat (first | exact (Kd.R_reads' HO323.out).2.2 | (with_reducible refine Kd.C_alloc ?_ _) | (with_reducible refine Kd.C_drewN ?_ _) | (with_reducible refine Kd.C_drew ?_)))
            (case side4 => exact (Kd.R_reads' HO323.out).2.1)
            rintro e w64 ⟨rfl, hb⟩
            refine ⟨_, rfl, ?_⟩
            have n0_ := Aside0.mk (Kd.R_below (by (with_reducible repeat (first | apply Kd.R_alloc | apply Kd.R_drewN | apply Kd.R_drew)); exact HO_304000.out) hb)
            have n1_ := Aside0.mk (Kd.R_below (by (with_reducible repeat (first | apply Kd.R_alloc | apply Kd.R_drewN | apply Kd.R_drew)); exact HO_310000.out) hb)
            have n2_ := Aside0.mk (Kd.R_below (by (with_reducible repeat (first | apply Kd.R_alloc | apply Kd.R_drewN | apply Kd.R_drew)); exact HO_320000.out) hb)
            have n3_ := Aside0.mk (Kd.R_below (by (with_reducible repeat (first | apply Kd.R_alloc | apply Kd.R_drewN | apply Kd.R_drew)); exact HO323.out) hb)
            have n4_ := Aside0.mk (blk_below (g := gb287) (o := .cells #[.slice A0_0 l0_0.length c0_0, .int .i64 a0_1, .int .i64 a0_2] 24 (0, 0)) (by (with_reducible repeat (first | refine blk_drewN ?_ _ | refine blk_drew ?_ | refine blk_alloc ?_ _)); exact BK287.out) hb)
            have n5_ := Aside0.mk (blk_below (g := gb303) (o := .cells #[.slice Ao20 t294.length co20, .int .i64 t297, .int .i64 t298, .string t299, .string t300, .int .i64 t301] 41 (0, 0)) (by (with_reducible repeat (first | refine blk_drewN ?_ _ | refine blk_drew ?_ | refine blk_alloc ?_ _)); exact BK303.out) hb)
            have n6_ := Aside0.mk (blk_below (g := gb309) (o := .cells #[.slice Ao26 t304.length co26, .int .i64 t307, .int .i64 t308] 27 (0, 0)) (by (with_reducible repeat (first | refine blk_drewN ?_ _ | refine blk_drew ?_ | refine blk_alloc ?_ _)); exact BK309.out) hb)
            have n7_ := Aside0.mk (blk_below (g := gb319) (o := .cells #[.slice Ao32 t310.length co32, .int .i64 t313, .int .i64 t314, .string t315, .string t316, .int .i64 t317] 41 (0, 0)) (by (with_reducible repeat (first | refine blk_drewN ?_ _ | refine blk_drew ?_ | refine blk_alloc ?_ _)); exact BK319.out) hb)
            have n8_ := Aside0.mk (below_step (by repeat (first | (with_reducible first | exact HB.out | apply below_alloc | apply pw_below_drewN | apply below_drew1 | refine below_set ?_ GE287.out | refine below_set ?_ GE303.out | refine below_set ?_ GE309.out | refine below_set ?_ GE319.out) | exact HB.out)) hb)
            clear HO_304000
            clear HO_310000
            clear HO_320000
            clear HO323
            clear BK287
            clear BK303
            clear BK309
            clear BK319
            clear HB
            have HO_304000 := n0_
            have HO_310000 := n1_
            have HO_320000 := n2_
            have HO323 := n3_
            have BK287 := n4_
            have BK303 := n5_
            have BK309 := n6_
            have BK319 := n7_
            have HB := n8_
            clear n0_ n1_ n2_ n3_ n4_ n5_ n6_ n7_ n8_
            (try clear hb)
            (try clear hb2)
            (try clear hk)
            (try clear hi)
            refine hK.out _ _ ⟨(blk_cell BK309.out 0).trans rfl, (blk_cell BK309.out 1).trans rfl, (blk_cell BK309.out 2).trans rfl, (blk_cell BK287.out 0).trans rfl, (blk_cell BK287.out 1).trans rfl, (blk_cell BK287.out 2).trans rfl⟩ (fun hHeld => ?_)
            clear hK K
            refine norm_ (a' := ?_) ?_ ?_
            rotate_left
            · show Act.put _ (some 44) _ = _
              simp only [Act.put, List.setIfInBounds_toArray, List.set_cons_zero, List.set_cons_succ, i64_w, i32_w]
              rfl
            refine pure_ (i := 4) (N := some 45) (v := ?_) (a' := ?_) #[true, true, true, true, true] rfl rfl (by kernel_rfl) (fun _ _ _ h => h) (Or.inl ⟨by rfl, ?_⟩) ?_ ?_
            rotate_left
            · intro w'
              go_simp
              with_reducible rfl
            rotate_left
            · simp only [Act.put, List.setIfInBounds_toArray, List.set_cons_zero, List.set_cons_succ, i64_w, i32_w]
              rfl
            refine done_ (by kernel_rfl) ?_
            have hnb65 := NB309_287.out
            have hnc65 := NB287_309.out
            have hnb66 := NB309_303.out
            have hnc66 := NB303_309.out
            have hnb67 := NB309_319.out
            have hnc67 := NB319_309.out
            have hcz68_0 : w64.cell? ⟨gb309, 0, none⟩ = some (.slice Ao26 t304.length co26) := (blk_cell BK309.out 0).trans rfl
            have hcz68_1 : w64.cell? ⟨gb309, 1, none⟩ = some (.int .i64 t307) := (blk_cell BK309.out 1).trans rfl
            have hcz68_2 : w64.cell? ⟨gb309, 2, none⟩ = some (.int .i64 t308) := (blk_cell BK309.out 2).trans rfl
            have hfz68_0 := blk_frozen BK309.out 0
            have hfz68_1 := blk_frozen BK309.out 1
            have hfz68_2 := blk_frozen BK309.out 2
            go_upto_region 14 with (first | ((with_reducible refine gate_callee (f := 25) rfl ?_); refine goesL_ (some 48) rfl rfl Try.func25 (by kernel_rfl) rfl #[.agg #[.slice Ao26 t304.length co26, .int .i64 t307, .int .i64 t308], .int .i64 1] rfl (by (try simp only [List.map_toArray, List.map_cons, List.map_nil]); first | done | rfl | (simp only [List.length_drop, List.length_take]; rfl)) ?_; (with_reducible refine (laws_markGallery.calls kj10 (fun k_ => some k_ = (.slice Ao26 t304.length co26 : Value).ownBlock) (.slice Ao26 t304.length co26) t304 t307 t308 1 t327 t328 w _ ?side1 ?side2 A59.out).mono ?_); (case side1 => repeat (first | (with_reducible first | exact HB.out | apply below_alloc | apply pw_below_drewN | apply below_drew1 | refine below_set ?_ GE287.out | refine below_set ?_ GE303.out | refine below_set ?_ GE309.out | refine below_set ?_ GE319.out) | exact HB.out)); (case side2 => exact Kd.R_tight rfl HO_310000.out); rintro e w69 ⟨rfl, hy0, hb, hkp⟩; refine ⟨_, rfl, ?_⟩; have n0_ := Aside0.mk (Kd.R_mono (ok' := fun k_ => some k_ ≠ (.slice Ao26 t304.length co26 : Value).ownBlock ∧ some k_ ≠ (.slice Ao32 t310.length co32 : Value).ownBlock ∧ some k_ ≠ (.slice Ao63 t321.length co63 : Value).ownBlock) (Kd.R_keptB (HO_304000.out) hkp (fun k_ hk_ hs_ => (hk_.1.1) hs_)) (fun k_ hk_ => ⟨hk_.1.1.1, hk_.1.1.2, hk_.1.2⟩)); have n1_ := Aside0.mk (Kd.R_reok rfl hy0 (fun k_ e_ => HO_310000.out.1 k_ e_)); have n2_ := Aside0.mk (Kd.R_mono (ok' := fun k_ => some k_ ≠ (.slice Ao20 t294.length co20 : Value).ownBlock ∧ some k_ ≠ (.slice Ao26 t304.length co26 : Value).ownBlock ∧ some k_ ≠ (.slice Ao63 t321.length co63 : Value).ownBlock) (Kd.R_keptB (HO_320000.out) hkp (fun k_ hk_ hs_ => (hk_.1.2) hs_)) (fun k_ hk_ => ⟨hk_.1.1.1, hk_.1.1.2, hk_.1.2⟩)); have n3_ := Aside0.mk (blk_kept (by (with_reducible repeat (first | refine blk_drewN ?_ _ | refine blk_drew ?_ | refine blk_alloc ?_ _)); exact BK287.out) hkp (fun hs_ => (fun e_ => (Kd.R_ne HO_310000.out BK287.out (by decide)) e_) hs_)); have n4_ := Aside0.mk (blk_kept (by (with_reducible repeat (first | refine blk_drewN ?_ _ | refine blk_drew ?_ | refine blk_alloc ?_ _)); exact BK303.out) hkp (fun hs_ => (fun e_ => (Kd.R_ne HO_310000.out BK303.out (by decide)) e_) hs_)); have n5_ := Aside0.mk (blk_kept (by (with_reducible repeat (first | refine blk_drewN ?_ _ | refine blk_drew ?_ | refine blk_alloc ?_ _)); exact BK309.out) hkp (fun hs_ => (fun e_ => (Kd.R_ne HO_310000.out BK309.out (by decide)) e_) hs_)); have n6_ := Aside0.mk (blk_kept (by (with_reducible repeat (first | refine blk_drewN ?_ _ | refine blk_drew ?_ | refine blk_alloc ?_ _)); exact BK319.out) hkp (fun hs_ => (fun e_ => (Kd.R_ne HO_310000.out BK319.out (by decide)) e_) hs_)); have n7_ := Aside0.mk (Kd.R_mono (ok' := fun k_ => some k_ ≠ (.slice Ao20 t294.length co20 : Value).ownBlock ∧ some k_ ≠ (.slice Ao26 t304.length co26 : Value).ownBlock ∧ some k_ ≠ (.slice Ao32 t310.length co32 : Value).ownBlock) (Kd.R_keptB (HO323.out) hkp (fun k_ hk_ hs_ => (hk_.1.2) hs_)) (fun k_ hk_ => ⟨hk_.1.1.1.2, hk_.1.1.2, hk_.1.2⟩)); have n8_ := Aside0.mk (hb); clear HO_304000; clear HO_310000; clear HO_320000; clear BK287; clear BK303; clear BK309; clear BK319; clear HO323; clear HB; have HO_304000 := n0_; have HO_310000 := n1_; have HO_320000 := n2_; have BK287 := n3_; have BK303 := n4_; have BK309 := n5_; have BK319 := n6_; have HO323 := n7_; have HB := n8_; clear n0_ n1_ n2_ n3_ n4_ n5_ n6_ n7_ n8_; (try clear hb); (try clear hkp); (try clear hy0)))
            (try simp only [Act.put, List.setIfInBounds_toArray, List.set_cons_zero, List.set_cons_succ])
            go_cut [61] (fun v61 wc => ∃ (kq : Nat) (x61_59 : Bool), v61 = .bool x61_59 ∧ Aside0 (laws_FnExactNewConsole.j1 kq t302 x61_59 l0_0 a0_1 a0_2 t294 t297 t298 t299 t300 t301 t310 t313 t314 t315 t316 t317 = some r) ∧ Aside0 (kq ≤ kj10) ∧ Aside0 (Kd.R (Kd.int .i64) 3 wc w.heap.size (fun k_ => some k_ ≠ ((.slice Ao26 t304.length co26) : Value).ownBlock ∧ some k_ ≠ ((.slice Ao32 t310.length co32) : Value).ownBlock) (.slice Ao20 t294.length co20) t294) ∧ Aside0 (Kd.R (Kd.int .i64) 3 wc w.heap.size (fun k_ => some k_ ≠ ((.slice Ao20 t294.length co20) : Value).ownBlock ∧ some k_ ≠ ((.slice Ao32 t310.length co32) : Value).ownBlock) (.slice Ao26 t304.length co26) t328) ∧ Aside0 (Kd.R (Kd.int .i64) 3 wc w.heap.size (fun k_ => some k_ ≠ ((.slice Ao20 t294.length co20) : Value).ownBlock ∧ some k_ ≠ ((.slice Ao26 t304.length co26) : Value).ownBlock) (.slice Ao32 t310.length co32) t310) ∧ Aside0 (wc.heap[gb287]? = some (.cells #[(.slice A0_0 l0_0.length c0_0), .int .i64 a0_1, .int .i64 a0_2] 24 (0, 0))) ∧ Aside0 (wc.heap[gb303]? = some (.cells #[(.slice Ao20 t294.length co20), .int .i64 t297, .int .i64 t298, .string t299, .string t300, .int .i64 t301] 41 (0, 0))) ∧ Aside0 (wc.heap[gb309]? = some (.cells #[(.slice Ao26 t304.length co26), .int .i64 t307, .int .i64 t308] 27 (0, 0))) ∧ Aside0 (wc.heap[gb319]? = some (.cells #[(.slice Ao32 t310.length co32), .int .i64 t313, .int .i64 t314, .string t315, .string t316, .int .i64 t317] 41 (0, 0))) ∧ Aside0 (Below w.heap.size w wc))
            case first =>
              have H := HC60.out
              clear HC60
              by_cases c70 : t327 < 0
              · rw [if_pos c70] at H
                have c70b0 : decide (t327 < 0) = true := decide_eq_true c70
                clear c70
                (first | rw [c70b0] | (simp only [i64_w, i32_w]; rw [c70b0]) | skip)
                have H' := Aside0.mk H
                clear H
                go_wp2
                go_meet
                case rel => exact ⟨_, (true), (by first | rfl | (simp; done) | (simp [*]; done)), H', ⟨by have := HJ10.out; first | omega | exact Nat.le_refl _⟩, ⟨by (with_reducible repeat (first | apply Kd.R_alloc | apply Kd.R_drewN | apply Kd.R_drew)); exact Kd.R_mono HO_304000.out (fun _ hk => ⟨hk.1, hk.2.1⟩)⟩, ⟨by (with_reducible repeat (first | apply Kd.R_alloc | apply Kd.R_drewN | apply Kd.R_drew)); exact Kd.R_mono HO_310000.out (fun _ hk => ⟨hk.1.1, hk.1.2⟩)⟩, ⟨by (with_reducible repeat (first | apply Kd.R_alloc | apply Kd.R_drewN | apply Kd.R_drew)); exact Kd.R_mono HO_320000.out (fun _ hk => ⟨hk.1, hk.2.1⟩)⟩, ⟨by (with_reducible repeat (first | refine blk_drewN ?_ _ | refine blk_drew ?_ | refine blk_alloc ?_ _)); exact BK287.out⟩, ⟨by (with_reducible repeat (first | refine blk_drewN ?_ _ | refine blk_drew ?_ | refine blk_alloc ?_ _)); exact BK303.out⟩, ⟨by (with_reducible repeat (first | refine blk_drewN ?_ _ | refine blk_drew ?_ | refine blk_alloc ?_ _)); exact BK309.out⟩, ⟨by (with_reducible repeat (first | refine blk_drewN ?_ _ | refine blk_drew ?_ | refine blk_alloc ?_ _)); exact BK319.out⟩, ⟨by repeat (first | (with_reducible first | exact HB.out | apply below_alloc | apply pw_below_drewN | apply below_drew1 | refine below_set ?_ GE287.out | refine below_set ?_ GE303.out | refine below_set ?_ GE309.out | refine below_set ?_ GE319.out) | exact HB.out)⟩⟩
              · rw [if_neg c70] at H
                have c70b0 : decide (t327 < 0) = false := decide_eq_false c70
                clear c70
                (first | rw [c70b0] | (simp only [i64_w, i32_w]; rw [c70b0]) | skip)
                replace H := Option.bind_eq_some_iff.mp H
                obtain ⟨t329, A710, H⟩ := H
                replace H : (if t329 = true then (laws_FnExactNewConsole.j1 kj10 t302 (t318 != t302) l0_0 a0_1 a0_2 t294 t297 t298 t299 t300 t301 t310 t313 t314 t315 t316 t317) else (laws_FnExactNewConsole.j1 kj10 t302 true l0_0 a0_1 a0_2 t294 t297 t298 t299 t300 t301 t310 t313 t314 t315 t316 t317)) = some r := H
                have A71 := Aside0.mk A710
                clear A710
                by_cases c72 : t329 = true
                · subst c72
                  have H1 : (laws_FnExactNewConsole.j1 kj10 t302 (t318 != t302) l0_0 a0_1 a0_2 t294 t297 t298 t299 t300 t301 t310 t313 t314 t315 t316 t317) = some r := by rw [if_pos rfl] at H; exact H
                  clear H
                  have H := H1
                  clear H1
                  have H' := Aside0.mk H
                  clear H
                  have hnb73 := NB319_287.out
                  have hnc73 := NB287_319.out
                  have hnb74 := NB319_303.out
                  have hnc74 := NB303_319.out
                  have hnb75 := NB319_309.out
                  have hnc75 := NB309_319.out
                  have hcz76_0 : w69.cell? ⟨gb319, 0, none⟩ = some (.slice Ao32 t310.length co32) := (blk_cell BK319.out 0).trans rfl
                  have hcz76_1 : w69.cell? ⟨gb319, 1, none⟩ = some (.int .i64 t313) := (blk_cell BK319.out 1).trans rfl
                  have hcz76_2 : w69.cell? ⟨gb319, 2, none⟩ = some (.int .i64 t314) := (blk_cell BK319.out 2).trans rfl
                  have hcz76_3 : w69.cell? ⟨gb319, 3, none⟩ = some (.string t315) := (blk_cell BK319.out 3).trans rfl
                  have hcz76_4 : w69.cell? ⟨gb319, 4, none⟩ = some (.string t316) := (blk_cell BK319.out 4).trans rfl
                  have hcz76_5 : w69.cell? ⟨gb319, 5, none⟩ = some (.int .i64 t317) := (blk_cell BK319.out 5).trans rfl
                  have hfz76_0 := blk_frozen BK319.out 0
                  have hfz76_1 := blk_frozen BK319.out 1
                  have hfz76_2 := blk_frozen BK319.out 2
                  have hfz76_3 := blk_frozen BK319.out 3
                  have hfz76_4 := blk_frozen BK319.out 4
                  have hfz76_5 := blk_frozen BK319.out 5
                  have hnb77 := NB303_287.out
                  have hnc77 := NB287_303.out
                  have hnb78 := NB303_309.out
                  have hnc78 := NB309_303.out
                  have hcz79_0 : w69.cell? ⟨gb303, 0, none⟩ = some (.slice Ao20 t294.length co20) := (blk_cell BK303.out 0).trans rfl
                  have hcz79_1 : w69.cell? ⟨gb303, 1, none⟩ = some (.int .i64 t297) := (blk_cell BK303.out 1).trans rfl
                  have hcz79_2 : w69.cell? ⟨gb303, 2, none⟩ = some (.int .i64 t298) := (blk_cell BK303.out 2).trans rfl
                  have hcz79_3 : w69.cell? ⟨gb303, 3, none⟩ = some (.string t299) := (blk_cell BK303.out 3).trans rfl
                  have hcz79_4 : w69.cell? ⟨gb303, 4, none⟩ = some (.string t300) := (blk_cell BK303.out 4).trans rfl
                  have hcz79_5 : w69.cell? ⟨gb303, 5, none⟩ = some (.int .i64 t301) := (blk_cell BK303.out 5).trans rfl
                  have hfz79_0 := blk_frozen BK303.out 0
                  have hfz79_1 := blk_frozen BK303.out 1
                  have hfz79_2 := blk_frozen BK303.out 2
                  have hfz79_3 := blk_frozen BK303.out 3
                  have hfz79_4 := blk_frozen BK303.out 4
                  have hfz79_5 := blk_frozen BK303.out 5
                  go_wp2_with (first | (go_at_call 29; (with_reducible refine (laws_eqConsole.calls kj10 _ _ t310 t313 t314 t315 t316 t317 _ _ t294 t297 t298 t299 t300 t301 true _ ?side1 ?side2 ?side3 ?side4 A71.out).mono ?_); (case side1 => repeat (first | exact (Kd.R_reads' HO_320000.out).2.2 | (with_reducible refine Kd.C_alloc ?_ _) | (with_reducible refine Kd.C_drewN ?_ _) | (with_reducible refine Kd.C_drew ?_))); (case side2 => exact (Kd.R_reads' HO_320000.out).2.1); (case side3 => repeat (first | exact (Kd.R_reads' HO_304000.out).2.2 | (with_reducible refine Kd.C_alloc ?_ _) | (with_reducible refine Kd.C_drewN ?_ _) | (with_reducible refine Kd.C_drew ?_))); (case side4 => exact (Kd.R_reads' HO_304000.out).2.1); rintro e w80 ⟨rfl, hb⟩; have n0_ := Aside0.mk (Kd.R_below (by (with_reducible repeat (first | apply Kd.R_alloc | apply Kd.R_drewN | apply Kd.R_drew)); exact HO_304000.out) hb); have n1_ := Aside0.mk (Kd.R_below (by (with_reducible repeat (first | apply Kd.R_alloc | apply Kd.R_drewN | apply Kd.R_drew)); exact HO_310000.out) hb); have n2_ := Aside0.mk (Kd.R_below (by (with_reducible repeat (first | apply Kd.R_alloc | apply Kd.R_drewN | apply Kd.R_drew)); exact HO_320000.out) hb); have n3_ := Aside0.mk (Kd.R_below (by (with_reducible repeat (first | apply Kd.R_alloc | apply Kd.R_drewN | apply Kd.R_drew)); exact HO323.out) hb); have n4_ := Aside0.mk (blk_below (g := gb287) (o := .cells #[.slice A0_0 l0_0.length c0_0, .int .i64 a0_1, .int .i64 a0_2] 24 (0, 0)) (by (with_reducible repeat (first | refine blk_drewN ?_ _ | refine blk_drew ?_ | refine blk_alloc ?_ _)); exact BK287.out) hb); have n5_ := Aside0.mk (blk_below (g := gb303) (o := .cells #[.slice Ao20 t294.length co20, .int .i64 t297, .int .i64 t298, .string t299, .string t300, .int .i64 t301] 41 (0, 0)) (by (with_reducible repeat (first | refine blk_drewN ?_ _ | refine blk_drew ?_ | refine blk_alloc ?_ _)); exact BK303.out) hb); have n6_ := Aside0.mk (blk_below (g := gb309) (o := .cells #[.slice Ao26 t304.length co26, .int .i64 t307, .int .i64 t308] 27 (0, 0)) (by (with_reducible repeat (first | refine blk_drewN ?_ _ | refine blk_drew ?_ | refine blk_alloc ?_ _)); exact BK309.out) hb); have n7_ := Aside0.mk (blk_below (g := gb319) (o := .cells #[.slice Ao32 t310.length co32, .int .i64 t313, .int .i64 t314, .string t315, .string t316, .int .i64 t317] 41 (0, 0)) (by (with_reducible repeat (first | refine blk_drewN ?_ _ | refine blk_drew ?_ | refine blk_alloc ?_ _)); exact BK319.out) hb); have n8_ := Aside0.mk (below_step (by repeat (first | (with_reducible first | exact HB.out | apply below_alloc | apply pw_below_drewN | apply below_drew1 | refine below_set ?_ GE287.out | refine below_set ?_ GE303.out | refine below_set ?_ GE309.out | refine below_set ?_ GE319.out) | exact HB.out)) hb); clear HO_304000; clear HO_310000; clear HO_320000; clear HO323; clear BK287; clear BK303; clear BK309; clear BK319; clear HB; have HO_304000 := n0_; have HO_310000 := n1_; have HO_320000 := n2_; have HO323 := n3_; have BK287 := n4_; have BK303 := n5_; have BK309 := n6_; have BK319 := n7_; have HB := n8_; clear n0_ n1_ n2_ n3_ n4_ n5_ n6_ n7_ n8_; (try clear hb); (try clear hb2); (try clear hk); (try clear hi)))
                  go_meet
                  case rel => exact ⟨_, ((t318 != t302)), (by first | rfl | (simp; done) | (simp [*]; done)), H', ⟨by have := HJ10.out; first | omega | exact Nat.le_refl _⟩, ⟨by (with_reducible repeat (first | apply Kd.R_alloc | apply Kd.R_drewN | apply Kd.R_drew)); exact Kd.R_mono HO_304000.out (fun _ hk => ⟨hk.1, hk.2.1⟩)⟩, ⟨by (with_reducible repeat (first | apply Kd.R_alloc | apply Kd.R_drewN | apply Kd.R_drew)); exact Kd.R_mono HO_310000.out (fun _ hk => ⟨hk.1.1, hk.1.2⟩)⟩, ⟨by (with_reducible repeat (first | apply Kd.R_alloc | apply Kd.R_drewN | apply Kd.R_drew)); exact Kd.R_mono HO_320000.out (fun _ hk => ⟨hk.1, hk.2.1⟩)⟩, ⟨by (with_reducible repeat (first | refine blk_drewN ?_ _ | refine blk_drew ?_ | refine blk_alloc ?_ _)); exact BK287.out⟩, ⟨by (with_reducible repeat (first | refine blk_drewN ?_ _ | refine blk_drew ?_ | refine blk_alloc ?_ _)); exact BK303.out⟩, ⟨by (with_reducible repeat (first | refine blk_drewN ?_ _ | refine blk_drew ?_ | refine blk_alloc ?_ _)); exact BK309.out⟩, ⟨by (with_reducible repeat (first | refine blk_drewN ?_ _ | refine blk_drew ?_ | refine blk_alloc ?_ _)); exact BK319.out⟩, ⟨by repeat (first | (with_reducible first | exact HB.out | apply below_alloc | apply pw_below_drewN | apply below_drew1 | refine below_set ?_ GE287.out | refine below_set ?_ GE303.out | refine below_set ?_ GE309.out | refine below_set ?_ GE319.out) | exact HB.out)⟩⟩
                · replace c72 := Bool.eq_false_iff.mpr c72
                  subst c72
                  have H1 : (laws_FnExactNewConsole.j1 kj10 t302 true l0_0 a0_1 a0_2 t294 t297 t298 t299 t300 t301 t310 t313 t314 t315 t316 t317) = some r := by rw [if_neg (show ¬ (false = true) by decide)] at H; exact H
                  clear H
                  have H := H1
                  clear H1
                  have H' := Aside0.mk H
                  clear H
                  have hnb81 := NB319_287.out
                  have hnc81 := NB287_319.out
                  have hnb82 := NB319_303.out
                  have hnc82 := NB303_319.out
                  have hnb83 := NB319_309.out
                  have hnc83 := NB309_319.out
                  have hcz84_0 : w69.cell? ⟨gb319, 0, none⟩ = some (.slice Ao32 t310.length co32) := (blk_cell BK319.out 0).trans rfl
                  have hcz84_1 : w69.cell? ⟨gb319, 1, none⟩ = some (.int .i64 t313) := (blk_cell BK319.out 1).trans rfl
                  have hcz84_2 : w69.cell? ⟨gb319, 2, none⟩ = some (.int .i64 t314) := (blk_cell BK319.out 2).trans rfl
                  have hcz84_3 : w69.cell? ⟨gb319, 3, none⟩ = some (.string t315) := (blk_cell BK319.out 3).trans rfl
                  have hcz84_4 : w69.cell? ⟨gb319, 4, none⟩ = some (.string t316) := (blk_cell BK319.out 4).trans rfl
                  have hcz84_5 : w69.cell? ⟨gb319, 5, none⟩ = some (.int .i64 t317) := (blk_cell BK319.out 5).trans rfl
                  have hfz84_0 := blk_frozen BK319.out 0
                  have hfz84_1 := blk_frozen BK319.out 1
                  have hfz84_2 := blk_frozen BK319.out 2
                  have hfz84_3 := blk_frozen BK319.out 3
                  have hfz84_4 := blk_frozen BK319.out 4
                  have hfz84_5 := blk_frozen BK319.out 5
                  have hnb85 := NB303_287.out
                  have hnc85 := NB287_303.out
                  have hnb86 := NB303_309.out
                  have hnc86 := NB309_303.out
                  have hcz87_0 : w69.cell? ⟨gb303, 0, none⟩ = some (.slice Ao20 t294.length co20) := (blk_cell BK303.out 0).trans rfl
                  have hcz87_1 : w69.cell? ⟨gb303, 1, none⟩ = some (.int .i64 t297) := (blk_cell BK303.out 1).trans rfl
                  have hcz87_2 : w69.cell? ⟨gb303, 2, none⟩ = some (.int .i64 t298) := (blk_cell BK303.out 2).trans rfl
                  have hcz87_3 : w69.cell? ⟨gb303, 3, none⟩ = some (.string t299) := (blk_cell BK303.out 3).trans rfl
                  have hcz87_4 : w69.cell? ⟨gb303, 4, none⟩ = some (.string t300) := (blk_cell BK303.out 4).trans rfl
                  have hcz87_5 : w69.cell? ⟨gb303, 5, none⟩ = some (.int .i64 t301) := (blk_cell BK303.out 5).trans rfl
                  have hfz87_0 := blk_frozen BK303.out 0
                  have hfz87_1 := blk_frozen BK303.out 1
                  have hfz87_2 := blk_frozen BK303.out 2
                  have hfz87_3 := blk_frozen BK303.out 3
                  have hfz87_4 := blk_frozen BK303.out 4
                  have hfz87_5 := blk_frozen BK303.out 5
                  go_wp2_with (first | (go_at_call 29; (with_reducible refine (laws_eqConsole.calls kj10 _ _ t310 t313 t314 t315 t316 t317 _ _ t294 t297 t298 t299 t300 t301 false _ ?side1 ?side2 ?side3 ?side4 A71.out).mono ?_); (case side1 => repeat (first | exact (Kd.R_reads' HO_320000.out).2.2 | (with_reducible refine Kd.C_alloc ?_ _) | (with_reducible refine Kd.C_drewN ?_ _) | (with_reducible refine Kd.C_drew ?_))); (case side2 => exact (Kd.R_reads' HO_320000.out).2.1); (case side3 => repeat (first | exact (Kd.R_reads' HO_304000.out).2.2 | (with_reducible refine Kd.C_alloc ?_ _) | (with_reducible refine Kd.C_drewN ?_ _) | (with_reducible refine Kd.C_drew ?_))); (case side4 => exact (Kd.R_reads' HO_304000.out).2.1); rintro e w88 ⟨rfl, hb⟩; have n0_ := Aside0.mk (Kd.R_below (by (with_reducible repeat (first | apply Kd.R_alloc | apply Kd.R_drewN | apply Kd.R_drew)); exact HO_304000.out) hb); have n1_ := Aside0.mk (Kd.R_below (by (with_reducible repeat (first | apply Kd.R_alloc | apply Kd.R_drewN | apply Kd.R_drew)); exact HO_310000.out) hb); have n2_ := Aside0.mk (Kd.R_below (by (with_reducible repeat (first | apply Kd.R_alloc | apply Kd.R_drewN | apply Kd.R_drew)); exact HO_320000.out) hb); have n3_ := Aside0.mk (Kd.R_below (by (with_reducible repeat (first | apply Kd.R_alloc | apply Kd.R_drewN | apply Kd.R_drew)); exact HO323.out) hb); have n4_ := Aside0.mk (blk_below (g := gb287) (o := .cells #[.slice A0_0 l0_0.length c0_0, .int .i64 a0_1, .int .i64 a0_2] 24 (0, 0)) (by (with_reducible repeat (first | refine blk_drewN ?_ _ | refine blk_drew ?_ | refine blk_alloc ?_ _)); exact BK287.out) hb); have n5_ := Aside0.mk (blk_below (g := gb303) (o := .cells #[.slice Ao20 t294.length co20, .int .i64 t297, .int .i64 t298, .string t299, .string t300, .int .i64 t301] 41 (0, 0)) (by (with_reducible repeat (first | refine blk_drewN ?_ _ | refine blk_drew ?_ | refine blk_alloc ?_ _)); exact BK303.out) hb); have n6_ := Aside0.mk (blk_below (g := gb309) (o := .cells #[.slice Ao26 t304.length co26, .int .i64 t307, .int .i64 t308] 27 (0, 0)) (by (with_reducible repeat (first | refine blk_drewN ?_ _ | refine blk_drew ?_ | refine blk_alloc ?_ _)); exact BK309.out) hb); have n7_ := Aside0.mk (blk_below (g := gb319) (o := .cells #[.slice Ao32 t310.length co32, .int .i64 t313, .int .i64 t314, .string t315, .string t316, .int .i64 t317] 41 (0, 0)) (by (with_reducible repeat (first | refine blk_drewN ?_ _ | refine blk_drew ?_ | refine blk_alloc ?_ _)); exact BK319.out) hb); have n8_ := Aside0.mk (below_step (by repeat (first | (with_reducible first | exact HB.out | apply below_alloc | apply pw_below_drewN | apply below_drew1 | refine below_set ?_ GE287.out | refine below_set ?_ GE303.out | refine below_set ?_ GE309.out | refine below_set ?_ GE319.out) | exact HB.out)) hb); clear HO_304000; clear HO_310000; clear HO_320000; clear HO323; clear BK287; clear BK303; clear BK309; clear BK319; clear HB; have HO_304000 := n0_; have HO_310000 := n1_; have HO_320000 := n2_; have HO323 := n3_; have BK287 := n4_; have BK303 := n5_; have BK309 := n6_; have BK319 := n7_; have HB := n8_; clear n0_ n1_ n2_ n3_ n4_ n5_ n6_ n7_ n8_; (try clear hb); (try clear hb2); (try clear hk); (try clear hi)))
                  go_meet
                  case rel => exact ⟨_, (true), (by first | rfl | (simp; done) | (simp [*]; done)), H', ⟨by have := HJ10.out; first | omega | exact Nat.le_refl _⟩, ⟨by (with_reducible repeat (first | apply Kd.R_alloc | apply Kd.R_drewN | apply Kd.R_drew)); exact Kd.R_mono HO_304000.out (fun _ hk => ⟨hk.1, hk.2.1⟩)⟩, ⟨by (with_reducible repeat (first | apply Kd.R_alloc | apply Kd.R_drewN | apply Kd.R_drew)); exact Kd.R_mono HO_310000.out (fun _ hk => ⟨hk.1.1, hk.1.2⟩)⟩, ⟨by (with_reducible repeat (first | apply Kd.R_alloc | apply Kd.R_drewN | apply Kd.R_drew)); exact Kd.R_mono HO_320000.out (fun _ hk => ⟨hk.1, hk.2.1⟩)⟩, ⟨by (with_reducible repeat (first | refine blk_drewN ?_ _ | refine blk_drew ?_ | refine blk_alloc ?_ _)); exact BK287.out⟩, ⟨by (with_reducible repeat (first | refine blk_drewN ?_ _ | refine blk_drew ?_ | refine blk_alloc ?_ _)); exact BK303.out⟩, ⟨by (with_reducible repeat (first | refine blk_drewN ?_ _ | refine blk_drew ?_ | refine blk_alloc ?_ _)); exact BK309.out⟩, ⟨by (with_reducible repeat (first | refine blk_drewN ?_ _ | refine blk_drew ?_ | refine blk_alloc ?_ _)); exact BK319.out⟩, ⟨by repeat (first | (with_reducible first | exact HB.out | apply below_alloc | apply pw_below_drewN | apply below_drew1 | refine below_set ?_ GE287.out | refine below_set ?_ GE303.out | refine below_set ?_ GE309.out | refine below_set ?_ GE319.out) | exact HB.out)⟩⟩
            case rest =>
              clear HC60
              try clear c1
              try clear c2
              try clear p2
              try clear c3
              try clear c3b0
              try clear c4
              try clear c5
              try clear c6
              try clear c7
              try clear c8
              try clear c15
              try clear c17
              try clear c19
              try clear c21
              try clear c25
              try clear c27
              try clear c28
              try clear c29
              try clear c33
              try clear c34
              try clear c35
              try clear c38
              try clear c39
              try clear c40
              try clear c41
              try clear c43
              try clear c44
              try clear c47
              try clear c48
              try clear c49
              try clear c51
              try clear c52
              try clear c55
              try clear c58
              try clear c65
              try clear c66
              try clear c67
              try clear c70
              try clear c70b0
              try clear c72
              try clear c73
              try clear c74
              try clear c75
              try clear c77
              try clear c78
              try clear c81
              try clear c82
              try clear c83
              try clear c85
              try clear c86
              try clear hcz13_0
              try clear hcz13_1
              try clear hcz13_2
              try clear hcz15_0
              try clear hcz15_1
              try clear hcz15_2
              try clear hcz22_0
              try clear hcz22_1
              try clear hcz22_2
              try clear hcz22_3
              try clear hcz22_4
              try clear hcz22_5
              try clear hcz23_0
              try clear hcz23_1
              try clear hcz23_2
              try clear hcz29_0
              try clear hcz29_1
              try clear hcz29_2
              try clear hcz36_0
              try clear hcz36_1
              try clear hcz36_2
              try clear hcz36_3
              try clear hcz36_4
              try clear hcz36_5
              try clear hcz42_0
              try clear hcz42_1
              try clear hcz42_2
              try clear hcz42_3
              try clear hcz42_4
              try clear hcz42_5
              try clear hcz45_0
              try clear hcz45_1
              try clear hcz45_2
              try clear hcz45_3
              try clear hcz45_4
              try clear hcz45_5
              try clear hcz50_0
              try clear hcz50_1
              try clear hcz50_2
              try clear hcz50_3
              try clear hcz50_4
              try clear hcz50_5
              try clear hcz53_0
              try clear hcz53_1
              try clear hcz53_2
              try clear hcz53_3
              try clear hcz53_4
              try clear hcz53_5
              try clear hcz5_0
              try clear hcz5_1
              try clear hcz5_2
              try clear hcz68_0
              try clear hcz68_1
              try clear hcz68_2
              try clear hcz76_0
              try clear hcz76_1
              try clear hcz76_2
              try clear hcz76_3
              try clear hcz76_4
              try clear hcz76_5
              try clear hcz79_0
              try clear hcz79_1
              try clear hcz79_2
              try clear hcz79_3
              try clear hcz79_4
              try clear hcz79_5
              try clear hcz84_0
              try clear hcz84_1
              try clear hcz84_2
              try clear hcz84_3
              try clear hcz84_4
              try clear hcz84_5
              try clear hcz87_0
              try clear hcz87_1
              try clear hcz87_2
              try clear hcz87_3
              try clear hcz87_4
              try clear hcz87_5
              try clear hfz13_0
              try clear hfz13_1
              try clear hfz13_2
              try clear hfz15_0
              try clear hfz15_1
              try clear hfz15_2
              try clear hfz22_0
              try clear hfz22_1
              try clear hfz22_2
              try clear hfz22_3
              try clear hfz22_4
              try clear hfz22_5
              try clear hfz23_0
              try clear hfz23_1
              try clear hfz23_2
              try clear hfz29_0
              try clear hfz29_1
              try clear hfz29_2
              try clear hfz36_0
              try clear hfz36_1
              try clear hfz36_2
              try clear hfz36_3
              try clear hfz36_4
              try clear hfz36_5
              try clear hfz42_0
              try clear hfz42_1
              try clear hfz42_2
              try clear hfz42_3
              try clear hfz42_4
              try clear hfz42_5
              try clear hfz45_0
              try clear hfz45_1
              try clear hfz45_2
              try clear hfz45_3
              try clear hfz45_4
              try clear hfz45_5
              try clear hfz50_0
              try clear hfz50_1
              try clear hfz50_2
              try clear hfz50_3
              try clear hfz50_4
              try clear hfz50_5
              try clear hfz53_0
              try clear hfz53_1
              try clear hfz53_2
              try clear hfz53_3
              try clear hfz53_4
              try clear hfz53_5
              try clear hfz5_0
              try clear hfz5_1
              try clear hfz5_2
              try clear hfz68_0
              try clear hfz68_1
              try clear hfz68_2
              try clear hfz76_0
              try clear hfz76_1
              try clear hfz76_2
              try clear hfz76_3
              try clear hfz76_4
              try clear hfz76_5
              try clear hfz79_0
              try clear hfz79_1
              try clear hfz79_2
              try clear hfz79_3
              try clear hfz79_4
              try clear hfz79_5
              try clear hfz84_0
              try clear hfz84_1
              try clear hfz84_2
              try clear hfz84_3
              try clear hfz84_4
              try clear hfz84_5
              try clear hfz87_0
              try clear hfz87_1
              try clear hfz87_2
              try clear hfz87_3
              try clear hfz87_4
              try clear hfz87_5
              try clear p2
              obtain ⟨kq, x61_59, rfl, HA, HJ59, HO_304000, HO_310000, HO_320000, BK287, BK303, BK309, BK319, HB⟩ := hcut
              have hl310000_59 := (Kd.R_reads' HO_310000.out).1
              rw [hl310000_59] at HO_310000
              (try simp only [hl310000_59])
              (try simp only [hl310000_59] at BK287)
              (try simp only [hl310000_59] at BK303)
              (try simp only [hl310000_59] at BK309)
              (try simp only [hl310000_59] at BK319)
              (try simp only [hl310000_59] at HO_304000)
              (try simp only [hl310000_59] at HO_320000)
              cases kq with
              | zero => exact absurd HA.out (by simp [laws_FnExactNewConsole.j1])
              | succ kj59 =>
                have H := HA.out
                clear HA
                simp only [laws_FnExactNewConsole.j1] at H
                by_cases c89 : x61_59 = true
                · subst c89
                  have H1 : (some false) = some r := by rw [if_pos rfl] at H; exact H
                  clear H
                  have H := H1
                  clear H1
                  obtain rfl := Option.some.inj H
                  go_wp2
                  go_ret
                  exact ⟨by first | rfl | (simp [errW_none, errW_some] <;> rfl) | (simp [*, errW_none, errW_some] <;> rfl), by repeat (first | (with_reducible first | exact HB.out | apply below_alloc | apply pw_below_drewN | apply below_drew1 | refine below_set ?_ GE287.out | refine below_set ?_ GE303.out | refine below_set ?_ GE309.out | refine below_set ?_ GE319.out) | exact HB.out)⟩
                · replace c89 := Bool.eq_false_iff.mpr c89
                  subst c89
                  have H1 : ((laws_markConsole.f kj59 t310 t313 t314 t315 t316 t317 1).bind fun bt330 => ((laws_heldConsole.f kj59 bt330.2 t313 t314 t315 t316 t317 1).bind fun t332 => (if t332 < 0 then (some false) else (if t332 = bt330.1 then ((laws_toGallery.f kj59 l0_0 a0_1 a0_2).bind fun bt333 => ((impl_NewConsole.f kj59 bt333.1 bt333.2.1 bt333.2.2).bind fun bt338 => ((laws_eqConsole.f kj59 bt338.1 bt338.2.1 bt338.2.2.1 bt338.2.2.2.1 bt338.2.2.2.2.1 bt338.2.2.2.2.2.1 t294 t297 t298 t299 t300 t301).bind fun t348 => (if t348 = true then (laws_FnExactNewConsole.j2 kj59 bt330.1 (bt338.2.2.2.2.2.2 != t302) bt330.2 t313 t314 t315 t316 t317) else (laws_FnExactNewConsole.j2 kj59 bt330.1 true bt330.2 t313 t314 t315 t316 t317))))) else (some false))))) = some r := by rw [if_neg (show ¬ (false = true) by decide)] at H; exact H
                  clear H
                  have H := H1
                  clear H1
                  replace H := Option.bind_eq_some_iff.mp H
                  obtain ⟨⟨t330, t331⟩, A900, H⟩ := H
                  replace H : ((laws_heldConsole.f kj59 t331 t313 t314 t315 t316 t317 1).bind fun t332 => (if t332 < 0 then (some false) else (if t332 = t330 then ((laws_toGallery.f kj59 l0_0 a0_1 a0_2).bind fun bt333 => ((impl_NewConsole.f kj59 bt333.1 bt333.2.1 bt333.2.2).bind fun bt338 => ((laws_eqConsole.f kj59 bt338.1 bt338.2.1 bt338.2.2.1 bt338.2.2.2.1 bt338.2.2.2.2.1 bt338.2.2.2.2.2.1 t294 t297 t298 t299 t300 t301).bind fun t348 => (if t348 = true then (laws_FnExactNewConsole.j2 kj59 t330 (bt338.2.2.2.2.2.2 != t302) t331 t313 t314 t315 t316 t317) else (laws_FnExactNewConsole.j2 kj59 t330 true t331 t313 t314 t315 t316 t317))))) else (some false)))) = some r := H
                  have A90 := Aside0.mk A900
                  clear A900
                  replace H := Option.bind_eq_some_iff.mp H
                  obtain ⟨t332, A910, H⟩ := H
                  replace H : (if t332 < 0 then (some false) else (if t332 = t330 then ((laws_toGallery.f kj59 l0_0 a0_1 a0_2).bind fun bt333 => ((impl_NewConsole.f kj59 bt333.1 bt333.2.1 bt333.2.2).bind fun bt338 => ((laws_eqConsole.f kj59 bt338.1 bt338.2.1 bt338.2.2.1 bt338.2.2.2.1 bt338.2.2.2.2.1 bt338.2.2.2.2.2.1 t294 t297 t298 t299 t300 t301).bind fun t348 => (if t348 = true then (laws_FnExactNewConsole.j2 kj59 t330 (bt338.2.2.2.2.2.2 != t302) t331 t313 t314 t315 t316 t317) else (laws_FnExactNewConsole.j2 kj59 t330 true t331 t313 t314 t315 t316 t317))))) else (some false))) = some r := H
                  have A91 := Aside0.mk A910
                  clear A910
                  by_cases c92 : t332 < 0
                  · rw [if_pos c92] at H
                    have c92b0 : decide (t332 < 0) = true := decide_eq_true c92
                    clear c92
                    obtain rfl := Option.some.inj H
                    have hnb93 := NB319_287.out
                    have hnc93 := NB287_319.out
                    have hnb94 := NB319_303.out
                    have hnc94 := NB303_319.out
                    have hnb95 := NB319_309.out
                    have hnc95 := NB309_319.out
                    have hcz96_0 : wc.cell? ⟨gb319, 0, none⟩ = some (.slice Ao32 t310.length co32) := (blk_cell BK319.out 0).trans rfl
                    have hcz96_1 : wc.cell? ⟨gb319, 1, none⟩ = some (.int .i64 t313) := (blk_cell BK319.out 1).trans rfl
                    have hcz96_2 : wc.cell? ⟨gb319, 2, none⟩ = some (.int .i64 t314) := (blk_cell BK319.out 2).trans rfl
                    have hcz96_3 : wc.cell? ⟨gb319, 3, none⟩ = some (.string t315) := (blk_cell BK319.out 3).trans rfl
                    have hcz96_4 : wc.cell? ⟨gb319, 4, none⟩ = some (.string t316) := (blk_cell BK319.out 4).trans rfl
                    have hcz96_5 : wc.cell? ⟨gb319, 5, none⟩ = some (.int .i64 t317) := (blk_cell BK319.out 5).trans rfl
                    have hfz96_0 := blk_frozen BK319.out 0
                    have hfz96_1 := blk_frozen BK319.out 1
                    have hfz96_2 := blk_frozen BK319.out 2
                    have hfz96_3 := blk_frozen BK319.out 3
                    have hfz96_4 := blk_frozen BK319.out 4
                    have hfz96_5 := blk_frozen BK319.out 5
                    go_wp2_with (first | ((with_reducible refine gate_callee (f := 30) rfl ?_); refine goesL_ (some 64) rfl rfl Try.func30 (by kernel_rfl) rfl #[.agg #[.slice Ao32 t310.length co32, .int .i64 t313, .int .i64 t314, .string t315, .string t316, .int .i64 t317], .int .i64 1] rfl (by (try simp only [List.map_toArray, List.map_cons, List.map_nil]); first | done | rfl | (simp only [List.length_drop, List.length_take]; rfl)) ?_; (with_reducible refine (laws_markConsole.calls kj59 (fun k_ => some k_ = (.slice Ao32 t310.length co32 : Value).ownBlock) (.slice Ao32 t310.length co32) t310 t313 t314 t315 t316 t317 1 t330 t331 w _ ?side1 ?side2 A90.out).mono ?_); (case side1 => repeat (first | (with_reducible first | exact HB.out | apply below_alloc | apply pw_below_drewN | apply below_drew1 | refine below_set ?_ GE287.out | refine below_set ?_ GE303.out | refine below_set ?_ GE309.out | refine below_set ?_ GE319.out) | exact HB.out)); (case side2 => exact Kd.R_tight rfl HO_320000.out); rintro e w97 ⟨rfl, hy0, hb, hkp⟩; refine ⟨_, rfl, ?_⟩; have n0_ := Aside0.mk (Kd.R_mono (ok' := fun k_ => some k_ ≠ (.slice Ao26 t328.length co26 : Value).ownBlock ∧ some k_ ≠ (.slice Ao32 t310.length co32 : Value).ownBlock) (Kd.R_keptB (HO_304000.out) hkp (fun k_ hk_ hs_ => (hk_.2) hs_)) (fun k_ hk_ => ⟨hk_.1.1, hk_.1.2⟩)); have n1_ := Aside0.mk (Kd.R_mono (ok' := fun k_ => some k_ ≠ (.slice Ao20 t294.length co20 : Value).ownBlock ∧ some k_ ≠ (.slice Ao32 t310.length co32 : Value).ownBlock) (Kd.R_keptB (HO_310000.out) hkp (fun k_ hk_ hs_ => (hk_.2) hs_)) (fun k_ hk_ => ⟨hk_.1.1, hk_.1.2⟩)); have n2_ := Aside0.mk (Kd.R_reok rfl hy0 (fun k_ e_ => HO_320000.out.1 k_ e_)); have n3_ := Aside0.mk (blk_kept (by (with_reducible repeat (first | refine blk_drewN ?_ _ | refine blk_drew ?_ | refine blk_alloc ?_ _)); exact BK287.out) hkp (fun hs_ => (fun e_ => (Kd.R_ne HO_320000.out BK287.out (by decide)) e_) hs_)); have n4_ := Aside0.mk (blk_kept (by (with_reducible repeat (first | refine blk_drewN ?_ _ | refine blk_drew ?_ | refine blk_alloc ?_ _)); exact BK303.out) hkp (fun hs_ => (fun e_ => (Kd.R_ne HO_320000.out BK303.out (by decide)) e_) hs_)); have n5_ := Aside0.mk (blk_kept (by (with_reducible repeat (first | refine blk_drewN ?_ _ | refine blk_drew ?_ | refine blk_alloc ?_ _)); exact BK309.out) hkp (fun hs_ => (fun e_ => (Kd.R_ne HO_320000.out BK309.out (by decide)) e_) hs_)); have n6_ := Aside0.mk (blk_kept (by (with_reducible repeat (first | refine blk_drewN ?_ _ | refine blk_drew ?_ | refine blk_alloc ?_ _)); exact BK319.out) hkp (fun hs_ => (fun e_ => (Kd.R_ne HO_320000.out BK319.out (by decide)) e_) hs_)); have n7_ := Aside0.mk (hb); clear HO_304000; clear HO_310000; clear HO_320000; clear BK287; clear BK303; clear BK309; clear BK319; clear HB; have HO_304000 := n0_; have HO_310000 := n1_; have HO_320000 := n2_; have BK287 := n3_; have BK303 := n4_; have BK309 := n5_; have BK319 := n6_; have HB := n7_; clear n0_ n1_ n2_ n3_ n4_ n5_ n6_ n7_; (try clear hb); (try clear hkp); (try clear hy0); have hcz98_0 : w97.cell? ⟨gb319, 0, none⟩ = some (.slice Ao32 t310.length co32) := (blk_cell BK319.out 0).trans rfl; have hcz98_1 : w97.cell? ⟨gb319, 1, none⟩ = some (.int .i64 t313) := (blk_cell BK319.out 1).trans rfl; have hcz98_2 : w97.cell? ⟨gb319, 2, none⟩ = some (.int .i64 t314) := (blk_cell BK319.out 2).trans rfl; have hcz98_3 : w97.cell? ⟨gb319, 3, none⟩ = some (.string t315) := (blk_cell BK319.out 3).trans rfl; have hcz98_4 : w97.cell? ⟨gb319, 4, none⟩ = some (.string t316) := (blk_cell BK319.out 4).trans rfl; have hcz98_5 : w97.cell? ⟨gb319, 5, none⟩ = some (.int .i64 t317) := (blk_cell BK319.out 5).trans rfl; have hfz98_0 := blk_frozen BK319.out 0; have hfz98_1 := blk_frozen BK319.out 1; have hfz98_2 := blk_frozen BK319.out 2; have hfz98_3 := blk_frozen BK319.out 3; have hfz98_4 := blk_frozen BK319.out 4; have hfz98_5 := blk_frozen BK319.out 5) | ((with_reducible refine gate_callee (f := 31) rfl ?_); refine goesL_ (some 67) rfl rfl Try.func31 (by kernel_rfl) rfl #[.agg #[.slice Ao32 t331.length co32, .int .i64 t313, .int .i64 t314, .string t315, .string t316, .int .i64 t317], .int .i64 1] rfl (by (try simp only [List.map_toArray, List.map_cons, List.map_nil]); first | done | (rw [show t331.length = t310.length from (Kd.R_reads' HO_320000.out).1.symm] <;> rfl) | rfl | (simp only [List.length_drop, List.length_take]; rfl)) ?_; (with_reducible refine (laws_heldConsole.calls kj59 _ _ t331 t313 t314 t315 t316 t317 1 t332 _ ?side1 ?side2 A91.out).mono ?_); (case side1 => repeat (first | exact (Kd.R_reads' HO_320000.out).2.2 | (with_reducible refine Kd.C_alloc ?_ _) | (with_reducible refine Kd.C_drewN ?_ _) | (with_reducible refine Kd.C_drew ?_))); (case side2 => rw [show t331.length = t310.length from (Kd.R_reads' HO_320000.out).1.symm]; exact (Kd.R_reads' HO_320000.out).2.1); rintro e w99 ⟨rfl, hb⟩; refine ⟨_, rfl, ?_⟩; have n0_ := Aside0.mk (Kd.R_below (by (with_reducible repeat (first | apply Kd.R_alloc | apply Kd.R_drewN | apply Kd.R_drew)); exact HO_304000.out) hb); have n1_ := Aside0.mk (Kd.R_below (by (with_reducible repeat (first | apply Kd.R_alloc | apply Kd.R_drewN | apply Kd.R_drew)); exact HO_310000.out) hb); have n2_ := Aside0.mk (Kd.R_below (by (with_reducible repeat (first | apply Kd.R_alloc | apply Kd.R_drewN | apply Kd.R_drew)); exact HO_320000.out) hb); have n3_ := Aside0.mk (blk_below (g := gb287) (o := .cells #[.slice A0_0 l0_0.length c0_0, .int .i64 a0_1, .int .i64 a0_2] 24 (0, 0)) (by (with_reducible repeat (first | refine blk_drewN ?_ _ | refine blk_drew ?_ | refine blk_alloc ?_ _)); exact BK287.out) hb); have n4_ := Aside0.mk (blk_below (g := gb303) (o := .cells #[.slice Ao20 t294.length co20, .int .i64 t297, .int .i64 t298, .string t299, .string t300, .int .i64 t301] 41 (0, 0)) (by (with_reducible repeat (first | refine blk_drewN ?_ _ | refine blk_drew ?_ | refine blk_alloc ?_ _)); exact BK303.out) hb); have n5_ := Aside0.mk (blk_below (g := gb309) (o := .cells #[.slice Ao26 t328.length co26, .int .i64 t307, .int .i64 t308] 27 (0, 0)) (by (with_reducible repeat (first | refine blk_drewN ?_ _ | refine blk_drew ?_ | refine blk_alloc ?_ _)); exact BK309.out) hb); have n6_ := Aside0.mk (blk_below (g := gb319) (o := .cells #[.slice Ao32 t310.length co32, .int .i64 t313, .int .i64 t314, .string t315, .string t316, .int .i64 t317] 41 (0, 0)) (by (with_reducible repeat (first | refine blk_drewN ?_ _ | refine blk_drew ?_ | refine blk_alloc ?_ _)); exact BK319.out) hb); have n7_ := Aside0.mk (below_step (by repeat (first | (with_reducible first | exact HB.out | apply below_alloc | apply pw_below_drewN | apply below_drew1 | refine below_set ?_ GE287.out | refine below_set ?_ GE303.out | refine below_set ?_ GE309.out | refine below_set ?_ GE319.out) | exact HB.out)) hb); clear HO_304000; clear HO_310000; clear HO_320000; clear BK287; clear BK303; clear BK309; clear BK319; clear HB; have HO_304000 := n0_; have HO_310000 := n1_; have HO_320000 := n2_; have BK287 := n3_; have BK303 := n4_; have BK309 := n5_; have BK319 := n6_; have HB := n7_; clear n0_ n1_ n2_ n3_ n4_ n5_ n6_ n7_; (try clear hb); (try clear hb2); (try clear hk); (try clear hi)))
                    go_ret
                    exact ⟨by first | rfl | (simp [errW_none, errW_some] <;> rfl) | (simp [*, errW_none, errW_some] <;> rfl), by repeat (first | (with_reducible first | exact HB.out | apply below_alloc | apply pw_below_drewN | apply below_drew1 | refine below_set ?_ GE287.out | refine below_set ?_ GE303.out | refine below_set ?_ GE309.out | refine below_set ?_ GE319.out) | exact HB.out)⟩
                  · rw [if_neg c92] at H
                    have c92b0 : decide (t332 < 0) = false := decide_eq_false c92
                    clear c92
                    by_cases c100 : t332 = t330
                    · rw [if_pos c100] at H
                      have c100b0 : (t332 == t330) = true := beq_iff_eq.mpr c100
                      have c100b1 : (t332 != t330) = false := bne_eq_false_iff_eq.mpr c100
                      clear c100
                      replace H := Option.bind_eq_some_iff.mp H
                      obtain ⟨⟨t333, t336, t337⟩, A1010, H⟩ := H
                      replace H : ((impl_NewConsole.f kj59 t333 t336 t337).bind fun bt338 => ((laws_eqConsole.f kj59 bt338.1 bt338.2.1 bt338.2.2.1 bt338.2.2.2.1 bt338.2.2.2.2.1 bt338.2.2.2.2.2.1 t294 t297 t298 t299 t300 t301).bind fun t348 => (if t348 = true then (laws_FnExactNewConsole.j2 kj59 t330 (bt338.2.2.2.2.2.2 != t302) t331 t313 t314 t315 t316 t317) else (laws_FnExactNewConsole.j2 kj59 t330 true t331 t313 t314 t315 t316 t317)))) = some r := H
                      have A101 := Aside0.mk A1010
                      clear A1010
                      replace H := Option.bind_eq_some_iff.mp H
                      obtain ⟨⟨t338, t341, t342, t343, t344, t345, t346⟩, A1020, H⟩ := H
                      replace H : ((laws_eqConsole.f kj59 t338 t341 t342 t343 t344 t345 t294 t297 t298 t299 t300 t301).bind fun t348 => (if t348 = true then (laws_FnExactNewConsole.j2 kj59 t330 (t346 != t302) t331 t313 t314 t315 t316 t317) else (laws_FnExactNewConsole.j2 kj59 t330 true t331 t313 t314 t315 t316 t317))) = some r := H
                      have A102 := Aside0.mk A1020
                      clear A1020
                      have HC103 := Aside0.mk H
                      clear H
                      have hnb104 := NB319_287.out
                      have hnc104 := NB287_319.out
                      have hnb105 := NB319_303.out
                      have hnc105 := NB303_319.out
                      have hnb106 := NB319_309.out
                      have hnc106 := NB309_319.out
                      have hcz107_0 : wc.cell? ⟨gb319, 0, none⟩ = some (.slice Ao32 t310.length co32) := (blk_cell BK319.out 0).trans rfl
                      have hcz107_1 : wc.cell? ⟨gb319, 1, none⟩ = some (.int .i64 t313) := (blk_cell BK319.out 1).trans rfl
                      have hcz107_2 : wc.cell? ⟨gb319, 2, none⟩ = some (.int .i64 t314) := (blk_cell BK319.out 2).trans rfl
                      have hcz107_3 : wc.cell? ⟨gb319, 3, none⟩ = some (.string t315) := (blk_cell BK319.out 3).trans rfl
                      have hcz107_4 : wc.cell? ⟨gb319, 4, none⟩ = some (.string t316) := (blk_cell BK319.out 4).trans rfl
                      have hcz107_5 : wc.cell? ⟨gb319, 5, none⟩ = some (.int .i64 t317) := (blk_cell BK319.out 5).trans rfl
                      have hfz107_0 := blk_frozen BK319.out 0
                      have hfz107_1 := blk_frozen BK319.out 1
                      have hfz107_2 := blk_frozen BK319.out 2
                      have hfz107_3 := blk_frozen BK319.out 3
                      have hfz107_4 := blk_frozen BK319.out 4
                      have hfz107_5 := blk_frozen BK319.out 5
                      go_upto_region 25 with (first | ((with_reducible refine gate_callee (f := 30) rfl ?_); refine goesL_ (some 64) rfl rfl Try.func30 (by kernel_rfl) rfl #[.agg #[.slice Ao32 t310.length co32, .int .i64 t313, .int .i64 t314, .string t315, .string t316, .int .i64 t317], .int .i64 1] rfl (by (try simp only [List.map_toArray, List.map_cons, List.map_nil]); first | done | rfl | (simp only [List.length_drop, List.length_take]; rfl)) ?_; (with_reducible refine (laws_markConsole.calls kj59 (fun k_ => some k_ = (.slice Ao32 t310.length co32 : Value).ownBlock) (.slice Ao32 t310.length co32) t310 t313 t314 t315 t316 t317 1 t330 t331 w _ ?side1 ?side2 A90.out).mono ?_); (case side1 => repeat (first | (with_reducible first | exact HB.out | apply below_alloc | apply pw_below_drewN | apply below_drew1 | refine below_set ?_ GE287.out | refine below_set ?_ GE303.out | refine below_set ?_ GE309.out | refine below_set ?_ GE319.out) | exact HB.out)); (case side2 => exact Kd.R_tight rfl HO_320000.out); rintro e w108 ⟨rfl, hy0, hb, hkp⟩; refine ⟨_, rfl, ?_⟩; have n0_ := Aside0.mk (Kd.R_mono (ok' := fun k_ => some k_ ≠ (.slice Ao26 t328.length co26 : Value).ownBlock ∧ some k_ ≠ (.slice Ao32 t310.length co32 : Value).ownBlock) (Kd.R_keptB (HO_304000.out) hkp (fun k_ hk_ hs_ => (hk_.2) hs_)) (fun k_ hk_ => ⟨hk_.1.1, hk_.1.2⟩)); have n1_ := Aside0.mk (Kd.R_mono (ok' := fun k_ => some k_ ≠ (.slice Ao20 t294.length co20 : Value).ownBlock ∧ some k_ ≠ (.slice Ao32 t310.length co32 : Value).ownBlock) (Kd.R_keptB (HO_310000.out) hkp (fun k_ hk_ hs_ => (hk_.2) hs_)) (fun k_ hk_ => ⟨hk_.1.1, hk_.1.2⟩)); have n2_ := Aside0.mk (Kd.R_reok rfl hy0 (fun k_ e_ => HO_320000.out.1 k_ e_)); have n3_ := Aside0.mk (blk_kept (by (with_reducible repeat (first | refine blk_drewN ?_ _ | refine blk_drew ?_ | refine blk_alloc ?_ _)); exact BK287.out) hkp (fun hs_ => (fun e_ => (Kd.R_ne HO_320000.out BK287.out (by decide)) e_) hs_)); have n4_ := Aside0.mk (blk_kept (by (with_reducible repeat (first | refine blk_drewN ?_ _ | refine blk_drew ?_ | refine blk_alloc ?_ _)); exact BK303.out) hkp (fun hs_ => (fun e_ => (Kd.R_ne HO_320000.out BK303.out (by decide)) e_) hs_)); have n5_ := Aside0.mk (blk_kept (by (with_reducible repeat (first | refine blk_drewN ?_ _ | refine blk_drew ?_ | refine blk_alloc ?_ _)); exact BK309.out) hkp (fun hs_ => (fun e_ => (Kd.R_ne HO_320000.out BK309.out (by decide)) e_) hs_)); have n6_ := Aside0.mk (blk_kept (by (with_reducible repeat (first | refine blk_drewN ?_ _ | refine blk_drew ?_ | refine blk_alloc ?_ _)); exact BK319.out) hkp (fun hs_ => (fun e_ => (Kd.R_ne HO_320000.out BK319.out (by decide)) e_) hs_)); have n7_ := Aside0.mk (hb); clear HO_304000; clear HO_310000; clear HO_320000; clear BK287; clear BK303; clear BK309; clear BK319; clear HB; have HO_304000 := n0_; have HO_310000 := n1_; have HO_320000 := n2_; have BK287 := n3_; have BK303 := n4_; have BK309 := n5_; have BK319 := n6_; have HB := n7_; clear n0_ n1_ n2_ n3_ n4_ n5_ n6_ n7_; (try clear hb); (try clear hkp); (try clear hy0); have hcz109_0 : w108.cell? ⟨gb319, 0, none⟩ = some (.slice Ao32 t310.length co32) := (blk_cell BK319.out 0).trans rfl; have hcz109_1 : w108.cell? ⟨gb319, 1, none⟩ = some (.int .i64 t313) := (blk_cell BK319.out 1).trans rfl; have hcz109_2 : w108.cell? ⟨gb319, 2, none⟩ = some (.int .i64 t314) := (blk_cell BK319.out 2).trans rfl; have hcz109_3 : w108.cell? ⟨gb319, 3, none⟩ = some (.string t315) := (blk_cell BK319.out 3).trans rfl; have hcz109_4 : w108.cell? ⟨gb319, 4, none⟩ = some (.string t316) := (blk_cell BK319.out 4).trans rfl; have hcz109_5 : w108.cell? ⟨gb319, 5, none⟩ = some (.int .i64 t317) := (blk_cell BK319.out 5).trans rfl; have hfz109_0 := blk_frozen BK319.out 0; have hfz109_1 := blk_frozen BK319.out 1; have hfz109_2 := blk_frozen BK319.out 2; have hfz109_3 := blk_frozen BK319.out 3; have hfz109_4 := blk_frozen BK319.out 4; have hfz109_5 := blk_frozen BK319.out 5) | ((with_reducible refine gate_callee (f := 31) rfl ?_); refine goesL_ (some 67) rfl rfl Try.func31 (by kernel_rfl) rfl #[.agg #[.slice Ao32 t331.length co32, .int .i64 t313, .int .i64 t314, .string t315, .string t316, .int .i64 t317], .int .i64 1] rfl (by (try simp only [List.map_toArray, List.map_cons, List.map_nil]); first | done | (rw [show t331.length = t310.length from (Kd.R_reads' HO_320000.out).1.symm] <;> rfl) | rfl | (simp only [List.length_drop, List.length_take]; rfl)) ?_; (with_reducible refine (laws_heldConsole.calls kj59 _ _ t331 t313 t314 t315 t316 t317 1 t332 _ ?side1 ?side2 A91.out).mono ?_); (case side1 => repeat (first | exact (Kd.R_reads' HO_320000.out).2.2 | (with_reducible refine Kd.C_alloc ?_ _) | (with_reducible refine Kd.C_drewN ?_ _) | (with_reducible refine Kd.C_drew ?_))); (case side2 => rw [show t331.length = t310.length from (Kd.R_reads' HO_320000.out).1.symm]; exact (Kd.R_reads' HO_320000.out).2.1); rintro e w110 ⟨rfl, hb⟩; refine ⟨_, rfl, ?_⟩; have n0_ := Aside0.mk (Kd.R_below (by (with_reducible repeat (first | apply Kd.R_alloc | apply Kd.R_drewN | apply Kd.R_drew)); exact HO_304000.out) hb); have n1_ := Aside0.mk (Kd.R_below (by (with_reducible repeat (first | apply Kd.R_alloc | apply Kd.R_drewN | apply Kd.R_drew)); exact HO_310000.out) hb); have n2_ := Aside0.mk (Kd.R_below (by (with_reducible repeat (first | apply Kd.R_alloc | apply Kd.R_drewN | apply Kd.R_drew)); exact HO_320000.out) hb); have n3_ := Aside0.mk (blk_below (g := gb287) (o := .cells #[.slice A0_0 l0_0.length c0_0, .int .i64 a0_1, .int .i64 a0_2] 24 (0, 0)) (by (with_reducible repeat (first | refine blk_drewN ?_ _ | refine blk_drew ?_ | refine blk_alloc ?_ _)); exact BK287.out) hb); have n4_ := Aside0.mk (blk_below (g := gb303) (o := .cells #[.slice Ao20 t294.length co20, .int .i64 t297, .int .i64 t298, .string t299, .string t300, .int .i64 t301] 41 (0, 0)) (by (with_reducible repeat (first | refine blk_drewN ?_ _ | refine blk_drew ?_ | refine blk_alloc ?_ _)); exact BK303.out) hb); have n5_ := Aside0.mk (blk_below (g := gb309) (o := .cells #[.slice Ao26 t328.length co26, .int .i64 t307, .int .i64 t308] 27 (0, 0)) (by (with_reducible repeat (first | refine blk_drewN ?_ _ | refine blk_drew ?_ | refine blk_alloc ?_ _)); exact BK309.out) hb); have n6_ := Aside0.mk (blk_below (g := gb319) (o := .cells #[.slice Ao32 t310.length co32, .int .i64 t313, .int .i64 t314, .string t315, .string t316, .int .i64 t317] 41 (0, 0)) (by (with_reducible repeat (first | refine blk_drewN ?_ _ | refine blk_drew ?_ | refine blk_alloc ?_ _)); exact BK319.out) hb); have n7_ := Aside0.mk (below_step (by repeat (first | (with_reducible first | exact HB.out | apply below_alloc | apply pw_below_drewN | apply below_drew1 | refine below_set ?_ GE287.out | refine below_set ?_ GE303.out | refine below_set ?_ GE309.out | refine below_set ?_ GE319.out) | exact HB.out)) hb); clear HO_304000; clear HO_310000; clear HO_320000; clear BK287; clear BK303; clear BK309; clear BK319; clear HB; have HO_304000 := n0_; have HO_310000 := n1_; have HO_320000 := n2_; have BK287 := n3_; have BK303 := n4_; have BK309 := n5_; have BK319 := n6_; have HB := n7_; clear n0_ n1_ n2_ n3_ n4_ n5_ n6_ n7_; (try clear hb); (try clear hb2); (try clear hk); (try clear hi); have hnb111 := NB287_303.out; have hnc111 := NB303_287.out; have hnb112 := NB287_309.out; have hnc112 := NB309_287.out; have hcz113_0 : w110.cell? ⟨gb287, 0, none⟩ = some (.slice A0_0 l0_0.length c0_0) := (blk_cell BK287.out 0).trans rfl; have hcz113_1 : w110.cell? ⟨gb287, 1, none⟩ = some (.int .i64 a0_1) := (blk_cell BK287.out 1).trans rfl; have hcz113_2 : w110.cell? ⟨gb287, 2, none⟩ = some (.int .i64 a0_2) := (blk_cell BK287.out 2).trans rfl; have hfz113_0 := blk_frozen BK287.out 0; have hfz113_1 := blk_frozen BK287.out 1; have hfz113_2 := blk_frozen BK287.out 2) | ((with_reducible refine gate_callee (f := 17) rfl ?_); refine goesL_ (some 75) rfl rfl Try.func17 (by kernel_rfl) rfl #[.agg #[.slice A0_0 l0_0.length c0_0, .int .i64 a0_1, .int .i64 a0_2]] rfl (by (try simp only [List.map_toArray, List.map_cons, List.map_nil]); first | done | rfl | (simp only [List.length_drop, List.length_take]; rfl)) ?_; (with_reducible refine (laws_toGallery.calls kj59 _ _ l0_0 a0_1 a0_2 t333 t336 t337 _ ?side1 ?side2 A101.out).mono ?_); (case side1 => repeat (first | exact (Kd.C_below HR0_0.out HB.out) | (with_reducible refine Kd.C_alloc ?_ _) | (with_reducible refine Kd.C_drewN ?_ _) | (with_reducible refine Kd.C_drew ?_))); (case side2 => exact HC0_0.out); rintro e w114 ⟨v334, rfl, ho0, hb⟩; refine ⟨_, rfl, ?_⟩; have n0_ := Aside0.mk (Kd.R_elder' (by (with_reducible repeat (first | apply Kd.R_alloc | apply Kd.R_drewN | apply Kd.R_drew)); exact HO_304000.out) (Kd.R_base ho0) hb); have n1_ := Aside0.mk (Kd.R_elder' (by (with_reducible repeat (first | apply Kd.R_alloc | apply Kd.R_drewN | apply Kd.R_drew)); exact HO_310000.out) (Kd.R_base ho0) hb); have n2_ := Aside0.mk (Kd.R_elder' (by (with_reducible repeat (first | apply Kd.R_alloc | apply Kd.R_drewN | apply Kd.R_drew)); exact HO_320000.out) (Kd.R_base ho0) hb); have n3_ := Aside0.mk (Kd.R_lower (Kd.R_new' (Kd.R_new' (Kd.R_new' ho0 (Kd.R_lt (by (with_reducible repeat (first | apply Kd.R_alloc | apply Kd.R_drewN | apply Kd.R_drew)); exact HO_304000.out))) (Kd.R_lt (by (with_reducible repeat (first | apply Kd.R_alloc | apply Kd.R_drewN | apply Kd.R_drew)); exact HO_310000.out))) (Kd.R_lt (by (with_reducible repeat (first | apply Kd.R_alloc | apply Kd.R_drewN | apply Kd.R_drew)); exact HO_320000.out))) (below_size (by repeat (first | (with_reducible first | exact HB.out | apply below_alloc | apply pw_below_drewN | apply below_drew1 | refine below_set ?_ GE287.out | refine below_set ?_ GE303.out | refine below_set ?_ GE309.out | refine below_set ?_ GE319.out) | exact HB.out)))); have n4_ := Aside0.mk (blk_below (g := gb287) (o := .cells #[.slice A0_0 l0_0.length c0_0, .int .i64 a0_1, .int .i64 a0_2] 24 (0, 0)) (by (with_reducible repeat (first | refine blk_drewN ?_ _ | refine blk_drew ?_ | refine blk_alloc ?_ _)); exact BK287.out) hb); have n5_ := Aside0.mk (blk_below (g := gb303) (o := .cells #[.slice Ao20 t294.length co20, .int .i64 t297, .int .i64 t298, .string t299, .string t300, .int .i64 t301] 41 (0, 0)) (by (with_reducible repeat (first | refine blk_drewN ?_ _ | refine blk_drew ?_ | refine blk_alloc ?_ _)); exact BK303.out) hb); have n6_ := Aside0.mk (blk_below (g := gb309) (o := .cells #[.slice Ao26 t328.length co26, .int .i64 t307, .int .i64 t308] 27 (0, 0)) (by (with_reducible repeat (first | refine blk_drewN ?_ _ | refine blk_drew ?_ | refine blk_alloc ?_ _)); exact BK309.out) hb); have n7_ := Aside0.mk (blk_below (g := gb319) (o := .cells #[.slice Ao32 t310.length co32, .int .i64 t313, .int .i64 t314, .string t315, .string t316, .int .i64 t317] 41 (0, 0)) (by (with_reducible repeat (first | refine blk_drewN ?_ _ | refine blk_drew ?_ | refine blk_alloc ?_ _)); exact BK319.out) hb); have n8_ := Aside0.mk (below_step (by repeat (first | (with_reducible first | exact HB.out | apply below_alloc | apply pw_below_drewN | apply below_drew1 | refine below_set ?_ GE287.out | refine below_set ?_ GE303.out | refine below_set ?_ GE309.out | refine below_set ?_ GE319.out) | exact HB.out)) hb); clear HO_304000; clear HO_310000; clear HO_320000; clear BK287; clear BK303; clear BK309; clear BK319; clear HB; have HO_304000 := n0_; have HO_310000 := n1_; have HO_320000 := n2_; have HO335 := n3_; have BK287 := n4_; have BK303 := n5_; have BK309 := n6_; have BK319 := n7_; have HB := n8_; clear n0_ n1_ n2_ n3_ n4_ n5_ n6_ n7_ n8_; (try clear hb); (try clear hb2); (try clear hk); (try clear hi); (try clear ho0); obtain ⟨Ao115, co115, eo115⟩ := Kd.R_slice HO335.out; subst eo115) | ((with_reducible refine gate_callee (f := 28) rfl ?_); refine goesL_ (some 76) rfl rfl Try.func28 (by kernel_rfl) rfl #[.agg #[.slice Ao115 t333.length co115, .int .i64 t336, .int .i64 t337]] rfl (by (try simp only [List.map_toArray, List.map_cons, List.map_nil]); first | done | rfl | (simp only [List.length_drop, List.length_take]; rfl)) ?_; (with_reducible refine (impl_NewConsole.calls kj59 _ _ t333 t336 t337 t338 t341 t342 t343 t344 t345 t346 _ ?side1 ?side2 A102.out).mono ?_); (case side1 => repeat (first | exact (Kd.R_reads' HO335.out).2.2 | (with_reducible refine Kd.C_alloc ?_ _) | (with_reducible refine Kd.C_drewN ?_ _) | (with_reducible refine Kd.C_drew ?_))); (case side2 => exact (Kd.R_reads' HO335.out).2.1); rintro e w116 ⟨v339, rfl, ho0, hb⟩; refine ⟨_, rfl, ?_⟩; have n0_ := Aside0.mk (Kd.R_elder' (by (with_reducible repeat (first | apply Kd.R_alloc | apply Kd.R_drewN | apply Kd.R_drew)); exact HO_304000.out) (Kd.R_base ho0) hb); have n1_ := Aside0.mk (Kd.R_elder' (by (with_reducible repeat (first | apply Kd.R_alloc | apply Kd.R_drewN | apply Kd.R_drew)); exact HO_310000.out) (Kd.R_base ho0) hb); have n2_ := Aside0.mk (Kd.R_elder' (by (with_reducible repeat (first | apply Kd.R_alloc | apply Kd.R_drewN | apply Kd.R_drew)); exact HO_320000.out) (Kd.R_base ho0) hb); have n3_ := Aside0.mk (Kd.R_elder' (by (with_reducible repeat (first | apply Kd.R_alloc | apply Kd.R_drewN | apply Kd.R_drew)); exact HO335.out) (Kd.R_base ho0) hb); have n4_ := Aside0.mk (Kd.R_lower (Kd.R_new' (Kd.R_new' (Kd.R_new' (Kd.R_new' ho0 (Kd.R_lt (by (with_reducible repeat (first | apply Kd.R_alloc | apply Kd.R_drewN | apply Kd.R_drew)); exact HO_304000.out))) (Kd.R_lt (by (with_reducible repeat (first | apply Kd.R_alloc | apply Kd.R_drewN | apply Kd.R_drew)); exact HO_310000.out))) (Kd.R_lt (by (with_reducible repeat (first | apply Kd.R_alloc | apply Kd.R_drewN | apply Kd.R_drew)); exact HO_320000.out))) (Kd.R_lt (by (with_reducible repeat (first | apply Kd.R_alloc | apply Kd.R_drewN | apply Kd.R_drew)); exact HO335.out))) (below_size (by repeat (first | (with_reducible first | exact HB.out | apply below_alloc | apply pw_below_drewN | apply below_drew1 | refine below_set ?_ GE287.out | refine below_set ?_ GE303.out | refine below_set ?_ GE309.out | refine below_set ?_ GE319.out) | exact HB.out)))); have n5_ := Aside0.mk (blk_below (g := gb287) (o := .cells #[.slice A0_0 l0_0.length c0_0, .int .i64 a0_1, .int .i64 a0_2] 24 (0, 0)) (by (with_reducible repeat (first | refine blk_drewN ?_ _ | refine blk_drew ?_ | refine blk_alloc ?_ _)); exact BK287.out) hb); have n6_ := Aside0.mk (blk_below (g := gb303) (o := .cells #[.slice Ao20 t294.length co20, .int .i64 t297, .int .i64 t298, .string t299, .string t300, .int .i64 t301] 41 (0, 0)) (by (with_reducible repeat (first | refine blk_drewN ?_ _ | refine blk_drew ?_ | refine blk_alloc ?_ _)); exact BK303.out) hb); have n7_ := Aside0.mk (blk_below (g := gb309) (o := .cells #[.slice Ao26 t328.length co26, .int .i64 t307, .int .i64 t308] 27 (0, 0)) (by (with_reducible repeat (first | refine blk_drewN ?_ _ | refine blk_drew ?_ | refine blk_alloc ?_ _)); exact BK309.out) hb); have n8_ := Aside0.mk (blk_below (g := gb319) (o := .cells #[.slice Ao32 t310.length co32, .int .i64 t313, .int .i64 t314, .string t315, .string t316, .int .i64 t317] 41 (0, 0)) (by (with_reducible repeat (first | refine blk_drewN ?_ _ | refine blk_drew ?_ | refine blk_alloc ?_ _)); exact BK319.out) hb); have n9_ := Aside0.mk (below_step (by repeat (first | (with_reducible first | exact HB.out | apply below_alloc | apply pw_below_drewN | apply below_drew1 | refine below_set ?_ GE287.out | refine below_set ?_ GE303.out | refine below_set ?_ GE309.out | refine below_set ?_ GE319.out) | exact HB.out)) hb); clear HO_304000; clear HO_310000; clear HO_320000; clear HO335; clear BK287; clear BK303; clear BK309; clear BK319; clear HB; have HO_304000 := n0_; have HO_310000 := n1_; have HO_320000 := n2_; have HO335 := n3_; have HO340 := n4_; have BK287 := n5_; have BK303 := n6_; have BK309 := n7_; have BK319 := n8_; have HB := n9_; clear n0_ n1_ n2_ n3_ n4_ n5_ n6_ n7_ n8_ n9_; (try clear hb); (try clear hb2); (try clear hk); (try clear hi); (try clear ho0)) | ((with_reducible refine gate_dst (N := 12) rfl ?_); refine box_event ?hg (N := 12) ?hd (cs := #[.slice none 0 0, .int .i64 0, .int .i64 0, .string (⟨#[]⟩ : ByteArray), .string (⟨#[]⟩ : ByteArray), .int .i64 0]) (t := 41) ?hr ?_; (case hd => rfl); (case hg => rfl); (case hr => first | (go_simp; done) | (go_simp; rfl)); intro gb347 hg w117 hbox hb; have n0_ := Aside0.mk (Kd.R_below (by (with_reducible repeat (first | apply Kd.R_alloc | apply Kd.R_drewN | apply Kd.R_drew)); exact HO_304000.out) hb); have n1_ := Aside0.mk (Kd.R_below (by (with_reducible repeat (first | apply Kd.R_alloc | apply Kd.R_drewN | apply Kd.R_drew)); exact HO_310000.out) hb); have n2_ := Aside0.mk (Kd.R_below (by (with_reducible repeat (first | apply Kd.R_alloc | apply Kd.R_drewN | apply Kd.R_drew)); exact HO_320000.out) hb); have n3_ := Aside0.mk (Kd.R_below (by (with_reducible repeat (first | apply Kd.R_alloc | apply Kd.R_drewN | apply Kd.R_drew)); exact HO335.out) hb); have n4_ := Aside0.mk (Kd.R_below (by (with_reducible repeat (first | apply Kd.R_alloc | apply Kd.R_drewN | apply Kd.R_drew)); exact HO340.out) hb); have n5_ := Aside0.mk (blk_below (g := gb287) (o := .cells #[.slice A0_0 l0_0.length c0_0, .int .i64 a0_1, .int .i64 a0_2] 24 (0, 0)) (by (with_reducible repeat (first | refine blk_drewN ?_ _ | refine blk_drew ?_ | refine blk_alloc ?_ _)); exact BK287.out) hb); have n6_ := Aside0.mk (blk_below (g := gb303) (o := .cells #[.slice Ao20 t294.length co20, .int .i64 t297, .int .i64 t298, .string t299, .string t300, .int .i64 t301] 41 (0, 0)) (by (with_reducible repeat (first | refine blk_drewN ?_ _ | refine blk_drew ?_ | refine blk_alloc ?_ _)); exact BK303.out) hb); have n7_ := Aside0.mk (blk_below (g := gb309) (o := .cells #[.slice Ao26 t328.length co26, .int .i64 t307, .int .i64 t308] 27 (0, 0)) (by (with_reducible repeat (first | refine blk_drewN ?_ _ | refine blk_drew ?_ | refine blk_alloc ?_ _)); exact BK309.out) hb); have n8_ := Aside0.mk (blk_below (g := gb319) (o := .cells #[.slice Ao32 t310.length co32, .int .i64 t313, .int .i64 t314, .string t315, .string t316, .int .i64 t317] 41 (0, 0)) (by (with_reducible repeat (first | refine blk_drewN ?_ _ | refine blk_drew ?_ | refine blk_alloc ?_ _)); exact BK319.out) hb); have n9_ := Aside0.mk (below_step (by repeat (first | (with_reducible first | exact HB.out | apply below_alloc | apply pw_below_drewN | apply below_drew1 | refine below_set ?_ GE287.out | refine below_set ?_ GE303.out | refine below_set ?_ GE309.out | refine below_set ?_ GE319.out) | exact HB.out)) hb); have n10_ := Aside0.mk (hbox); have n11_ := Aside0.mk ((by rw [hg]; exact (below_size (by repeat (first | (with_reducible first | exact HB.out | apply below_alloc | apply pw_below_drewN | apply below_drew1 | refine below_set ?_ GE287.out | refine below_set ?_ GE303.out | refine below_set ?_ GE309.out | refine below_set ?_ GE319.out) | exact HB.out))) : w.heap.size ≤ gb347)); have n12_ := Aside0.mk ((by rw [hg]; exact (below_size (by repeat (first | (with_reducible first | exact HB.out | apply below_alloc | apply pw_below_drewN | apply below_drew1 | refine below_set ?_ GE287.out | refine below_set ?_ GE303.out | refine below_set ?_ GE309.out | refine below_set ?_ GE319.out) | exact HB.out))) : w.heap.size ≤ gb347)); have n13_ := Aside0.mk ((by rw [hg]; exact Nat.ne_of_lt (blk_lt (g := gb287) (o := .cells #[.slice A0_0 l0_0.length c0_0, .int .i64 a0_1, .int .i64 a0_2] 24 (0, 0)) (by (with_reducible repeat (first | refine blk_drewN ?_ _ | refine blk_drew ?_ | refine blk_alloc ?_ _)); exact BK287.out)) : gb287 ≠ gb347)); have n14_ := Aside0.mk ((by rw [hg]; exact Nat.ne_of_gt (blk_lt (g := gb287) (o := .cells #[.slice A0_0 l0_0.length c0_0, .int .i64 a0_1, .int .i64 a0_2] 24 (0, 0)) (by (with_reducible repeat (first | refine blk_drewN ?_ _ | refine blk_drew ?_ | refine blk_alloc ?_ _)); exact BK287.out)) : gb347 ≠ gb287)); have n15_ := Aside0.mk ((by rw [hg]; exact Nat.ne_of_lt (blk_lt (g := gb303) (o := .cells #[.slice Ao20 t294.length co20, .int .i64 t297, .int .i64 t298, .string t299, .string t300, .int .i64 t301] 41 (0, 0)) (by (with_reducible repeat (first | refine blk_drewN ?_ _ | refine blk_drew ?_ | refine blk_alloc ?_ _)); exact BK303.out)) : gb303 ≠ gb347)); have n16_ := Aside0.mk ((by rw [hg]; exact Nat.ne_of_gt (blk_lt (g := gb303) (o := .cells #[.slice Ao20 t294.length co20, .int .i64 t297, .int .i64 t298, .string t299, .string t300, .int .i64 t301] 41 (0, 0)) (by (with_reducible repeat (first | refine blk_drewN ?_ _ | refine blk_drew ?_ | refine blk_alloc ?_ _)); exact BK303.out)) : gb347 ≠ gb303)); have n17_ := Aside0.mk ((by rw [hg]; exact Nat.ne_of_lt (blk_lt (g := gb309) (o := .cells #[.slice Ao26 t328.length co26, .int .i64 t307, .int .i64 t308] 27 (0, 0)) (by (with_reducible repeat (first | refine blk_drewN ?_ _ | refine blk_drew ?_ | refine blk_alloc ?_ _)); exact BK309.out)) : gb309 ≠ gb347)); have n18_ := Aside0.mk ((by rw [hg]; exact Nat.ne_of_gt (blk_lt (g := gb309) (o := .cells #[.slice Ao26 t328.length co26, .int .i64 t307, .int .i64 t308] 27 (0, 0)) (by (with_reducible repeat (first | refine blk_drewN ?_ _ | refine blk_drew ?_ | refine blk_alloc ?_ _)); exact BK309.out)) : gb347 ≠ gb309)); have n19_ := Aside0.mk ((by rw [hg]; exact Nat.ne_of_lt (blk_lt (g := gb319) (o := .cells #[.slice Ao32 t310.length co32, .int .i64 t313, .int .i64 t314, .string t315, .string t316, .int .i64 t317] 41 (0, 0)) (by (with_reducible repeat (first | refine blk_drewN ?_ _ | refine blk_drew ?_ | refine blk_alloc ?_ _)); exact BK319.out)) : gb319 ≠ gb347)); have n20_ := Aside0.mk ((by rw [hg]; exact Nat.ne_of_gt (blk_lt (g := gb319) (o := .cells #[.slice Ao32 t310.length co32, .int .i64 t313, .int .i64 t314, .string t315, .string t316, .int .i64 t317] 41 (0, 0)) (by (with_reducible repeat (first | refine blk_drewN ?_ _ | refine blk_drew ?_ | refine blk_alloc ?_ _)); exact BK319.out)) : gb347 ≠ gb319)); clear HO_304000; clear HO_310000; clear HO_320000; clear HO335; clear HO340; clear BK287; clear BK303; clear BK309; clear BK319; clear HB; have HO_304000 := n0_; have HO_310000 := n1_; have HO_320000 := n2_; have HO335 := n3_; have HO340 := n4_; have BK287 := n5_; have BK303 := n6_; have BK309 := n7_; have BK319 := n8_; have HB := n9_; have BK347 := n10_; have GW347 := n11_; have GE347 := n12_; have NB287_347 := n13_; have NB347_287 := n14_; have NB303_347 := n15_; have NB347_303 := n16_; have NB309_347 := n17_; have NB347_309 := n18_; have NB319_347 := n19_; have NB347_319 := n20_; clear n0_ n1_ n2_ n3_ n4_ n5_ n6_ n7_ n8_ n9_ n10_ n11_ n12_ n13_ n14_ n15_ n16_ n17_ n18_ n19_ n20_; clear hb hbox hg; obtain ⟨Ao118, co118, eo118⟩ := Kd.R_slice HO340.out; subst eo118; have hnb119 := NB347_287.out; have hnc119 := NB287_347.out; have hnb120 := NB347_303.out; have hnc120 := NB303_347.out; have hnb121 := NB347_309.out; have hnc121 := NB309_347.out; have hnb122 := NB347_319.out; have hnc122 := NB319_347.out; have hcz123_0 : w117.cell? ⟨gb347, 0, none⟩ = some (.slice none 0 0) := (blk_cell BK347.out 0).trans rfl; have hcz123_1 : w117.cell? ⟨gb347, 1, none⟩ = some (.int .i64 0) := (blk_cell BK347.out 1).trans rfl; have hcz123_2 : w117.cell? ⟨gb347, 2, none⟩ = some (.int .i64 0) := (blk_cell BK347.out 2).trans rfl; have hcz123_3 : w117.cell? ⟨gb347, 3, none⟩ = some (.string (⟨#[]⟩ : ByteArray)) := (blk_cell BK347.out 3).trans rfl; have hcz123_4 : w117.cell? ⟨gb347, 4, none⟩ = some (.string (⟨#[]⟩ : ByteArray)) := (blk_cell BK347.out 4).trans rfl; have hcz123_5 : w117.cell? ⟨gb347, 5, none⟩ = some (.int .i64 0) := (blk_cell BK347.out 5).trans rfl; have hfz123_0 := blk_frozen BK347.out 0; have hfz123_1 := blk_frozen BK347.out 1; have hfz123_2 := blk_frozen BK347.out 2; have hfz123_3 := blk_frozen BK347.out 3; have hfz123_4 := blk_frozen BK347.out 4; have hfz123_5 := blk_frozen BK347.out 5))
                      (try simp only [Act.put, List.setIfInBounds_toArray, List.set_cons_zero, List.set_cons_succ])
                      go_cut [87] (fun v87 wc => ∃ (kq : Nat) (x87_102 : Bool), v87 = .bool x87_102 ∧ Aside0 (laws_FnExactNewConsole.j2 kq t330 x87_102 t331 t313 t314 t315 t316 t317 = some r) ∧ Aside0 (kq ≤ kj59) ∧ Aside0 (Kd.R (Kd.int .i64) 3 wc w.heap.size (fun k_ => some k_ ≠ ((.slice Ao26 t328.length co26) : Value).ownBlock ∧ some k_ ≠ ((.slice Ao32 t310.length co32) : Value).ownBlock ∧ some k_ ≠ ((.slice Ao118 t338.length co118) : Value).ownBlock) (.slice Ao20 t294.length co20) t294) ∧ Aside0 (Kd.R (Kd.int .i64) 3 wc w.heap.size (fun k_ => some k_ ≠ ((.slice Ao20 t294.length co20) : Value).ownBlock ∧ some k_ ≠ ((.slice Ao32 t310.length co32) : Value).ownBlock ∧ some k_ ≠ ((.slice Ao118 t338.length co118) : Value).ownBlock) (.slice Ao26 t328.length co26) t328) ∧ Aside0 (Kd.R (Kd.int .i64) 3 wc w.heap.size (fun k_ => some k_ ≠ ((.slice Ao20 t294.length co20) : Value).ownBlock ∧ some k_ ≠ ((.slice Ao26 t328.length co26) : Value).ownBlock ∧ some k_ ≠ ((.slice Ao118 t338.length co118) : Value).ownBlock) (.slice Ao32 t310.length co32) t331) ∧ Aside0 (Kd.R (Kd.int .i64) 3 wc w.heap.size (fun k_ => some k_ ≠ ((.slice Ao20 t294.length co20) : Value).ownBlock ∧ some k_ ≠ ((.slice Ao26 t328.length co26) : Value).ownBlock ∧ some k_ ≠ ((.slice Ao32 t310.length co32) : Value).ownBlock) (.slice Ao118 t338.length co118) t338) ∧ Aside0 (wc.heap[gb287]? = some (.cells #[(.slice A0_0 l0_0.length c0_0), .int .i64 a0_1, .int .i64 a0_2] 24 (0, 0))) ∧ Aside0 (wc.heap[gb303]? = some (.cells #[(.slice Ao20 t294.length co20), .int .i64 t297, .int .i64 t298, .string t299, .string t300, .int .i64 t301] 41 (0, 0))) ∧ Aside0 (wc.heap[gb309]? = some (.cells #[(.slice Ao26 t328.length co26), .int .i64 t307, .int .i64 t308] 27 (0, 0))) ∧ Aside0 (wc.heap[gb319]? = some (.cells #[(.slice Ao32 t310.length co32), .int .i64 t313, .int .i64 t314, .string t315, .string t316, .int .i64 t317] 41 (0, 0))) ∧ Aside0 (wc.heap[gb347]? = some (.cells #[(.slice Ao118 t338.length co118), .int .i64 t341, .int .i64 t342, .string t343, .string t344, .int .i64 t345] 41 (0, 0))) ∧ Aside0 (Below w.heap.size w wc))
                      case first =>
                        have H := HC103.out
                        clear HC103
                        replace H := Option.bind_eq_some_iff.mp H
                        obtain ⟨t348, A1240, H⟩ := H
                        replace H : (if t348 = true then (laws_FnExactNewConsole.j2 kj59 t330 (t346 != t302) t331 t313 t314 t315 t316 t317) else (laws_FnExactNewConsole.j2 kj59 t330 true t331 t313 t314 t315 t316 t317)) = some r := H
                        have A124 := Aside0.mk A1240
                        clear A1240
                        by_cases c125 : t348 = true
                        · subst c125
                          have H1 : (laws_FnExactNewConsole.j2 kj59 t330 (t346 != t302) t331 t313 t314 t315 t316 t317) = some r := by rw [if_pos rfl] at H; exact H
                          clear H
                          have H := H1
                          clear H1
                          have H' := Aside0.mk H
                          clear H
                          have hnb126 := NB347_287.out
                          have hnc126 := NB287_347.out
                          have hnb127 := NB347_303.out
                          have hnc127 := NB303_347.out
                          have hnb128 := NB347_309.out
                          have hnc128 := NB309_347.out
                          have hnb129 := NB347_319.out
                          have hnc129 := NB319_347.out
                          have hcz130_0 : w117.cell? ⟨gb347, 0, none⟩ = some (.slice none 0 0) := (blk_cell BK347.out 0).trans rfl
                          have hcz130_1 : w117.cell? ⟨gb347, 1, none⟩ = some (.int .i64 0) := (blk_cell BK347.out 1).trans rfl
                          have hcz130_2 : w117.cell? ⟨gb347, 2, none⟩ = some (.int .i64 0) := (blk_cell BK347.out 2).trans rfl
                          have hcz130_3 : w117.cell? ⟨gb347, 3, none⟩ = some (.string (⟨#[]⟩ : ByteArray)) := (blk_cell BK347.out 3).trans rfl
                          have hcz130_4 : w117.cell? ⟨gb347, 4, none⟩ = some (.string (⟨#[]⟩ : ByteArray)) := (blk_cell BK347.out 4).trans rfl
                          have hcz130_5 : w117.cell? ⟨gb347, 5, none⟩ = some (.int .i64 0) := (blk_cell BK347.out 5).trans rfl
                          have hfz130_0 := blk_frozen BK347.out 0
                          have hfz130_1 := blk_frozen BK347.out 1
                          have hfz130_2 := blk_frozen BK347.out 2
                          have hfz130_3 := blk_frozen BK347.out 3
                          have hfz130_4 := blk_frozen BK347.out 4
                          have hfz130_5 := blk_frozen BK347.out 5
                          have hnb131 := NB303_287.out
                          have hnc131 := NB287_303.out
                          have hnb132 := NB303_309.out
                          have hnc132 := NB309_303.out
                          have hnb133 := NB303_319.out
                          have hnc133 := NB319_303.out
                          have hcz134_0 : w117.cell? ⟨gb303, 0, none⟩ = some (.slice Ao20 t294.length co20) := (blk_cell BK303.out 0).trans rfl
                          have hcz134_1 : w117.cell? ⟨gb303, 1, none⟩ = some (.int .i64 t297) := (blk_cell BK303.out 1).trans rfl
                          have hcz134_2 : w117.cell? ⟨gb303, 2, none⟩ = some (.int .i64 t298) := (blk_cell BK303.out 2).trans rfl
                          have hcz134_3 : w117.cell? ⟨gb303, 3, none⟩ = some (.string t299) := (blk_cell BK303.out 3).trans rfl
                          have hcz134_4 : w117.cell? ⟨gb303, 4, none⟩ = some (.string t300) := (blk_cell BK303.out 4).trans rfl
                          have hcz134_5 : w117.cell? ⟨gb303, 5, none⟩ = some (.int .i64 t301) := (blk_cell BK303.out 5).trans rfl
                          have hfz134_0 := blk_frozen BK303.out 0
                          have hfz134_1 := blk_frozen BK303.out 1
                          have hfz134_2 := blk_frozen BK303.out 2
                          have hfz134_3 := blk_frozen BK303.out 3
                          have hfz134_4 := blk_frozen BK303.out 4
                          have hfz134_5 := blk_frozen BK303.out 5
                          go_wp2_with (first | ((with_reducible refine gate_callee (f := 29) rfl ?_); refine goesL_ (some 81) rfl rfl Try.func29 (by kernel_rfl) rfl #[.agg #[.slice Ao118 t338.length co118, .int .i64 t341, .int .i64 t342, .string t343, .string t344, .int .i64 t345], .agg #[.slice Ao20 t294.length co20, .int .i64 t297, .int .i64 t298, .string t299, .string t300, .int .i64 t301]] rfl (by (try simp only [List.map_toArray, List.map_cons, List.map_nil]); first | done | rfl | (simp only [List.length_drop, List.length_take]; rfl)) ?_; (with_reducible refine (laws_eqConsole.calls kj59 _ _ t338 t341 t342 t343 t344 t345 _ _ t294 t297 t298 t299 t300 t301 true _ ?side1 ?side2 ?side3 ?side4 A124.out).mono ?_); (case side1 => refine (Kd.R_reads' (e := 3) (base := w.heap.size) (ok := fun k_ => ((((True ∧ some k_ ≠ (.slice Ao20 t294.length co20 : Value).ownBlock) ∧ some k_ ≠ (.slice Ao26 t328.length co26 : Value).ownBlock) ∧ some k_ ≠ (.slice Ao32 t310.length co32 : Value).ownBlock) ∧ some k_ ≠ (.slice Ao115 t333.length co115 : Value).ownBlock)) (n := t338.length) (c := co118) ?_).2.2; exact (by (with_reducible repeat (first | apply Kd.R_alloc | apply Kd.R_drewN | apply Kd.R_drew)); exact (Kd.R_mono (Kd.R_far (p := ⟨gb347, 5, none⟩) (Kd.R_far (p := ⟨gb347, 4, none⟩) (Kd.R_far (p := ⟨gb347, 3, none⟩) (Kd.R_far (p := ⟨gb347, 2, none⟩) (Kd.R_far (p := ⟨gb347, 1, none⟩) (Kd.R_far (p := ⟨gb347, 0, none⟩) (Kd.R_types HO340.out BK347.out (by decide)) (fun _ hk => hk.2) (.slice Ao118 t338.length co118)) (fun _ hk => hk.2) (.int .i64 t341)) (fun _ hk => hk.2) (.int .i64 t342)) (fun _ hk => hk.2) (.string t343)) (fun _ hk => hk.2) (.string t344)) (fun _ hk => hk.2) (.int .i64 t345)) (fun _ h_ => h_.1)))); (case side2 => exact (Kd.R_reads' HO340.out).2.1); (case side3 => refine (Kd.R_reads' (e := 3) (base := w.heap.size) (ok := fun k_ => (((some k_ ≠ (.slice Ao26 t328.length co26 : Value).ownBlock ∧ some k_ ≠ (.slice Ao32 t310.length co32 : Value).ownBlock) ∧ some k_ ≠ (.slice Ao115 t333.length co115 : Value).ownBlock) ∧ some k_ ≠ (.slice Ao118 t338.length co118 : Value).ownBlock)) (n := t294.length) (c := co20) ?_).2.2; exact (by (with_reducible repeat (first | apply Kd.R_alloc | apply Kd.R_drewN | apply Kd.R_drew)); exact (Kd.R_mono (Kd.R_far (p := ⟨gb347, 5, none⟩) (Kd.R_far (p := ⟨gb347, 4, none⟩) (Kd.R_far (p := ⟨gb347, 3, none⟩) (Kd.R_far (p := ⟨gb347, 2, none⟩) (Kd.R_far (p := ⟨gb347, 1, none⟩) (Kd.R_far (p := ⟨gb347, 0, none⟩) (Kd.R_types HO_304000.out BK347.out (by decide)) (fun _ hk => hk.2) (.slice Ao118 t338.length co118)) (fun _ hk => hk.2) (.int .i64 t341)) (fun _ hk => hk.2) (.int .i64 t342)) (fun _ hk => hk.2) (.string t343)) (fun _ hk => hk.2) (.string t344)) (fun _ hk => hk.2) (.int .i64 t345)) (fun _ h_ => h_.1)))); (case side4 => exact (Kd.R_reads' HO_304000.out).2.1); rintro e w135 ⟨rfl, hb⟩; refine ⟨_, rfl, ?_⟩; have n0_ := Aside0.mk (Kd.R_below (by (with_reducible repeat (first | apply Kd.R_alloc | apply Kd.R_drewN | apply Kd.R_drew)); exact (Kd.R_mono (Kd.R_far (p := ⟨gb347, 5, none⟩) (Kd.R_far (p := ⟨gb347, 4, none⟩) (Kd.R_far (p := ⟨gb347, 3, none⟩) (Kd.R_far (p := ⟨gb347, 2, none⟩) (Kd.R_far (p := ⟨gb347, 1, none⟩) (Kd.R_far (p := ⟨gb347, 0, none⟩) (Kd.R_types HO_304000.out BK347.out (by decide)) (fun _ hk => hk.2) (.slice Ao118 t338.length co118)) (fun _ hk => hk.2) (.int .i64 t341)) (fun _ hk => hk.2) (.int .i64 t342)) (fun _ hk => hk.2) (.string t343)) (fun _ hk => hk.2) (.string t344)) (fun _ hk => hk.2) (.int .i64 t345)) (fun _ h_ => h_.1))) hb); have n1_ := Aside0.mk (Kd.R_below (by (with_reducible repeat (first | apply Kd.R_alloc | apply Kd.R_drewN | apply Kd.R_drew)); exact (Kd.R_mono (Kd.R_far (p := ⟨gb347, 5, none⟩) (Kd.R_far (p := ⟨gb347, 4, none⟩) (Kd.R_far (p := ⟨gb347, 3, none⟩) (Kd.R_far (p := ⟨gb347, 2, none⟩) (Kd.R_far (p := ⟨gb347, 1, none⟩) (Kd.R_far (p := ⟨gb347, 0, none⟩) (Kd.R_types HO_310000.out BK347.out (by decide)) (fun _ hk => hk.2) (.slice Ao118 t338.length co118)) (fun _ hk => hk.2) (.int .i64 t341)) (fun _ hk => hk.2) (.int .i64 t342)) (fun _ hk => hk.2) (.string t343)) (fun _ hk => hk.2) (.string t344)) (fun _ hk => hk.2) (.int .i64 t345)) (fun _ h_ => h_.1))) hb); have n2_ := Aside0.mk (Kd.R_below (by (with_reducible repeat (first | apply Kd.R_alloc | apply Kd.R_drewN | apply Kd.R_drew)); exact (Kd.R_mono (Kd.R_far (p := ⟨gb347, 5, none⟩) (Kd.R_far (p := ⟨gb347, 4, none⟩) (Kd.R_far (p := ⟨gb347, 3, none⟩) (Kd.R_far (p := ⟨gb347, 2, none⟩) (Kd.R_far (p := ⟨gb347, 1, none⟩) (Kd.R_far (p := ⟨gb347, 0, none⟩) (Kd.R_types HO_320000.out BK347.out (by decide)) (fun _ hk => hk.2) (.slice Ao118 t338.length co118)) (fun _ hk => hk.2) (.int .i64 t341)) (fun _ hk => hk.2) (.int .i64 t342)) (fun _ hk => hk.2) (.string t343)) (fun _ hk => hk.2) (.string t344)) (fun _ hk => hk.2) (.int .i64 t345)) (fun _ h_ => h_.1))) hb); have n3_ := Aside0.mk (Kd.R_below (by (with_reducible repeat (first | apply Kd.R_alloc | apply Kd.R_drewN | apply Kd.R_drew)); exact (Kd.R_mono (Kd.R_far (p := ⟨gb347, 5, none⟩) (Kd.R_far (p := ⟨gb347, 4, none⟩) (Kd.R_far (p := ⟨gb347, 3, none⟩) (Kd.R_far (p := ⟨gb347, 2, none⟩) (Kd.R_far (p := ⟨gb347, 1, none⟩) (Kd.R_far (p := ⟨gb347, 0, none⟩) (Kd.R_types HO335.out BK347.out (by decide)) (fun _ hk => hk.2) (.slice Ao118 t338.length co118)) (fun _ hk => hk.2) (.int .i64 t341)) (fun _ hk => hk.2) (.int .i64 t342)) (fun _ hk => hk.2) (.string t343)) (fun _ hk => hk.2) (.string t344)) (fun _ hk => hk.2) (.int .i64 t345)) (fun _ h_ => h_.1))) hb); have n4_ := Aside0.mk (Kd.R_below (by (with_reducible repeat (first | apply Kd.R_alloc | apply Kd.R_drewN | apply Kd.R_drew)); exact (Kd.R_mono (Kd.R_far (p := ⟨gb347, 5, none⟩) (Kd.R_far (p := ⟨gb347, 4, none⟩) (Kd.R_far (p := ⟨gb347, 3, none⟩) (Kd.R_far (p := ⟨gb347, 2, none⟩) (Kd.R_far (p := ⟨gb347, 1, none⟩) (Kd.R_far (p := ⟨gb347, 0, none⟩) (Kd.R_types HO340.out BK347.out (by decide)) (fun _ hk => hk.2) (.slice Ao118 t338.length co118)) (fun _ hk => hk.2) (.int .i64 t341)) (fun _ hk => hk.2) (.int .i64 t342)) (fun _ hk => hk.2) (.string t343)) (fun _ hk => hk.2) (.string t344)) (fun _ hk => hk.2) (.int .i64 t345)) (fun _ h_ => h_.1))) hb); have n5_ := Aside0.mk (blk_below (g := gb287) (o := .cells #[.slice A0_0 l0_0.length c0_0, .int .i64 a0_1, .int .i64 a0_2] 24 (0, 0)) (by (with_reducible repeat (first | refine blk_drewN ?_ _ | refine blk_drew ?_ | refine blk_alloc ?_ _)); refine blk_far ?_ NB287_347.out _; (with_reducible repeat (first | refine blk_drewN ?_ _ | refine blk_drew ?_ | refine blk_alloc ?_ _)); refine blk_far ?_ NB287_347.out _; (with_reducible repeat (first | refine blk_drewN ?_ _ | refine blk_drew ?_ | refine blk_alloc ?_ _)); refine blk_far ?_ NB287_347.out _; (with_reducible repeat (first | refine blk_drewN ?_ _ | refine blk_drew ?_ | refine blk_alloc ?_ _)); refine blk_far ?_ NB287_347.out _; (with_reducible repeat (first | refine blk_drewN ?_ _ | refine blk_drew ?_ | refine blk_alloc ?_ _)); refine blk_far ?_ NB287_347.out _; (with_reducible repeat (first | refine blk_drewN ?_ _ | refine blk_drew ?_ | refine blk_alloc ?_ _)); refine blk_far ?_ NB287_347.out _; (with_reducible repeat (first | refine blk_drewN ?_ _ | refine blk_drew ?_ | refine blk_alloc ?_ _)); exact BK287.out) hb); have n6_ := Aside0.mk (blk_below (g := gb303) (o := .cells #[.slice Ao20 t294.length co20, .int .i64 t297, .int .i64 t298, .string t299, .string t300, .int .i64 t301] 41 (0, 0)) (by (with_reducible repeat (first | refine blk_drewN ?_ _ | refine blk_drew ?_ | refine blk_alloc ?_ _)); refine blk_far ?_ NB303_347.out _; (with_reducible repeat (first | refine blk_drewN ?_ _ | refine blk_drew ?_ | refine blk_alloc ?_ _)); refine blk_far ?_ NB303_347.out _; (with_reducible repeat (first | refine blk_drewN ?_ _ | refine blk_drew ?_ | refine blk_alloc ?_ _)); refine blk_far ?_ NB303_347.out _; (with_reducible repeat (first | refine blk_drewN ?_ _ | refine blk_drew ?_ | refine blk_alloc ?_ _)); refine blk_far ?_ NB303_347.out _; (with_reducible repeat (first | refine blk_drewN ?_ _ | refine blk_drew ?_ | refine blk_alloc ?_ _)); refine blk_far ?_ NB303_347.out _; (with_reducible repeat (first | refine blk_drewN ?_ _ | refine blk_drew ?_ | refine blk_alloc ?_ _)); refine blk_far ?_ NB303_347.out _; (with_reducible repeat (first | refine blk_drewN ?_ _ | refine blk_drew ?_ | refine blk_alloc ?_ _)); exact BK303.out) hb); have n7_ := Aside0.mk (blk_below (g := gb309) (o := .cells #[.slice Ao26 t328.length co26, .int .i64 t307, .int .i64 t308] 27 (0, 0)) (by (with_reducible repeat (first | refine blk_drewN ?_ _ | refine blk_drew ?_ | refine blk_alloc ?_ _)); refine blk_far ?_ NB309_347.out _; (with_reducible repeat (first | refine blk_drewN ?_ _ | refine blk_drew ?_ | refine blk_alloc ?_ _)); refine blk_far ?_ NB309_347.out _; (with_reducible repeat (first | refine blk_drewN ?_ _ | refine blk_drew ?_ | refine blk_alloc ?_ _)); refine blk_far ?_ NB309_347.out _; (with_reducible repeat (first | refine blk_drewN ?_ _ | refine blk_drew ?_ | refine blk_alloc ?_ _)); refine blk_far ?_ NB309_347.out _; (with_reducible repeat (first | refine blk_drewN ?_ _ | refine blk_drew ?_ | refine blk_alloc ?_ _)); refine blk_far ?_ NB309_347.out _; (with_reducible repeat (first | refine blk_drewN ?_ _ | refine blk_drew ?_ | refine blk_alloc ?_ _)); refine blk_far ?_ NB309_347.out _; (with_reducible repeat (first | refine blk_drewN ?_ _ | refine blk_drew ?_ | refine blk_alloc ?_ _)); exact BK309.out) hb); have n8_ := Aside0.mk (blk_below (g := gb319) (o := .cells #[.slice Ao32 t310.length co32, .int .i64 t313, .int .i64 t314, .string t315, .string t316, .int .i64 t317] 41 (0, 0)) (by (with_reducible repeat (first | refine blk_drewN ?_ _ | refine blk_drew ?_ | refine blk_alloc ?_ _)); refine blk_far ?_ NB319_347.out _; (with_reducible repeat (first | refine blk_drewN ?_ _ | refine blk_drew ?_ | refine blk_alloc ?_ _)); refine blk_far ?_ NB319_347.out _; (with_reducible repeat (first | refine blk_drewN ?_ _ | refine blk_drew ?_ | refine blk_alloc ?_ _)); refine blk_far ?_ NB319_347.out _; (with_reducible repeat (first | refine blk_drewN ?_ _ | refine blk_drew ?_ | refine blk_alloc ?_ _)); refine blk_far ?_ NB319_347.out _; (with_reducible repeat (first | refine blk_drewN ?_ _ | refine blk_drew ?_ | refine blk_alloc ?_ _)); refine blk_far ?_ NB319_347.out _; (with_reducible repeat (first | refine blk_drewN ?_ _ | refine blk_drew ?_ | refine blk_alloc ?_ _)); refine blk_far ?_ NB319_347.out _; (with_reducible repeat (first | refine blk_drewN ?_ _ | refine blk_drew ?_ | refine blk_alloc ?_ _)); exact BK319.out) hb); have n9_ := Aside0.mk (blk_below (g := gb347) (o := .cells #[.slice Ao118 t338.length co118, .int .i64 t341, .int .i64 t342, .string t343, .string t344, .int .i64 t345] 41 (0, 0)) (by (with_reducible repeat (first | refine blk_drewN ?_ _ | refine blk_drew ?_ | refine blk_alloc ?_ _)); refine blk_put (cs := #[.slice Ao118 t338.length co118, .int .i64 t341, .int .i64 t342, .string t343, .string t344, .int .i64 0]) ?_ 5 _ rfl; (with_reducible repeat (first | refine blk_drewN ?_ _ | refine blk_drew ?_ | refine blk_alloc ?_ _)); refine blk_put (cs := #[.slice Ao118 t338.length co118, .int .i64 t341, .int .i64 t342, .string t343, .string (⟨#[]⟩ : ByteArray), .int .i64 0]) ?_ 4 _ rfl; (with_reducible repeat (first | refine blk_drewN ?_ _ | refine blk_drew ?_ | refine blk_alloc ?_ _)); refine blk_put (cs := #[.slice Ao118 t338.length co118, .int .i64 t341, .int .i64 t342, .string (⟨#[]⟩ : ByteArray), .string (⟨#[]⟩ : ByteArray), .int .i64 0]) ?_ 3 _ rfl; (with_reducible repeat (first | refine blk_drewN ?_ _ | refine blk_drew ?_ | refine blk_alloc ?_ _)); refine blk_put (cs := #[.slice Ao118 t338.length co118, .int .i64 t341, .int .i64 0, .string (⟨#[]⟩ : ByteArray), .string (⟨#[]⟩ : ByteArray), .int .i64 0]) ?_ 2 _ rfl; (with_reducible repeat (first | refine blk_drewN ?_ _ | refine blk_drew ?_ | refine blk_alloc ?_ _)); refine blk_put (cs := #[.slice Ao118 t338.length co118, .int .i64 0, .int .i64 0, .string (⟨#[]⟩ : ByteArray), .string (⟨#[]⟩ : ByteArray), .int .i64 0]) ?_ 1 _ rfl; (with_reducible repeat (first | refine blk_drewN ?_ _ | refine blk_drew ?_ | refine blk_alloc ?_ _)); refine blk_put (cs := #[.slice none 0 0, .int .i64 0, .int .i64 0, .string (⟨#[]⟩ : ByteArray), .string (⟨#[]⟩ : ByteArray), .int .i64 0]) ?_ 0 _ rfl; (with_reducible repeat (first | refine blk_drewN ?_ _ | refine blk_drew ?_ | refine blk_alloc ?_ _)); exact BK347.out) hb); have n10_ := Aside0.mk (below_step (by repeat (first | (with_reducible first | exact HB.out | apply below_alloc | apply pw_below_drewN | apply below_drew1 | refine below_set ?_ GE287.out | refine below_set ?_ GE303.out | refine below_set ?_ GE309.out | refine below_set ?_ GE319.out | refine below_set ?_ GE347.out) | exact HB.out)) hb); clear HO_304000; clear HO_310000; clear HO_320000; clear HO335; clear HO340; clear BK287; clear BK303; clear BK309; clear BK319; clear BK347; clear HB; have HO_304000 := n0_; have HO_310000 := n1_; have HO_320000 := n2_; have HO335 := n3_; have HO340 := n4_; have BK287 := n5_; have BK303 := n6_; have BK309 := n7_; have BK319 := n8_; have BK347 := n9_; have HB := n10_; clear n0_ n1_ n2_ n3_ n4_ n5_ n6_ n7_ n8_ n9_ n10_; (try clear hb); (try clear hb2); (try clear hk); (try clear hi)))
                          go_meet
                          case rel => exact ⟨_, ((t346 != t302)), (by first | rfl | (simp; done) | (simp [*]; done)), H', ⟨by have := HJ10.out; have := HJ59.out; first | omega | exact Nat.le_refl _⟩, ⟨by (try simp only [hl310000_59]); (with_reducible repeat (first | apply Kd.R_alloc | apply Kd.R_drewN | apply Kd.R_drew)); exact Kd.R_mono HO_304000.out (fun _ hk => ⟨hk.1.1.1, ⟨hk.1.1.2, hk.2⟩⟩)⟩, ⟨by (try simp only [hl310000_59]); (with_reducible repeat (first | apply Kd.R_alloc | apply Kd.R_drewN | apply Kd.R_drew)); exact Kd.R_mono HO_310000.out (fun _ hk => ⟨hk.1.1.1, ⟨hk.1.1.2, hk.2⟩⟩)⟩, ⟨by (try simp only [hl310000_59]); (with_reducible repeat (first | apply Kd.R_alloc | apply Kd.R_drewN | apply Kd.R_drew)); exact Kd.R_mono HO_320000.out (fun _ hk => ⟨hk.1.1.1, ⟨hk.1.1.2, hk.2⟩⟩)⟩, ⟨by (try simp only [hl310000_59]); (with_reducible repeat (first | apply Kd.R_alloc | apply Kd.R_drewN | apply Kd.R_drew)); exact Kd.R_mono HO340.out (fun _ hk => ⟨hk.1.1.1.2, ⟨hk.1.1.2, hk.1.2⟩⟩)⟩, ⟨by (try simp only [hl310000_59]); (with_reducible repeat (first | refine blk_drewN ?_ _ | refine blk_drew ?_ | refine blk_alloc ?_ _)); exact BK287.out⟩, ⟨by (try simp only [hl310000_59]); (with_reducible repeat (first | refine blk_drewN ?_ _ | refine blk_drew ?_ | refine blk_alloc ?_ _)); exact BK303.out⟩, ⟨by (try simp only [hl310000_59]); (with_reducible repeat (first | refine blk_drewN ?_ _ | refine blk_drew ?_ | refine blk_alloc ?_ _)); exact BK309.out⟩, ⟨by (try simp only [hl310000_59]); (with_reducible repeat (first | refine blk_drewN ?_ _ | refine blk_drew ?_ | refine blk_alloc ?_ _)); exact BK319.out⟩, ⟨by (try simp only [hl310000_59]); (with_reducible repeat (first | refine blk_drewN ?_ _ | refine blk_drew ?_ | refine blk_alloc ?_ _)); exact BK347.out⟩, ⟨by repeat (first | (with_reducible first | exact HB.out | apply below_alloc | apply pw_below_drewN | apply below_drew1 | refine below_set ?_ GE287.out | refine below_set ?_ GE303.out | refine below_set ?_ GE309.out | refine below_set ?_ GE319.out | refine below_set ?_ GE347.out) | exact HB.out)⟩⟩
                        · replace c125 := Bool.eq_false_iff.mpr c125
                          subst c125
                          have H1 : (laws_FnExactNewConsole.j2 kj59 t330 true t331 t313 t314 t315 t316 t317) = some r := by rw [if_neg (show ¬ (false = true) by decide)] at H; exact H
                          clear H
                          have H := H1
                          clear H1
                          have H' := Aside0.mk H
                          clear H
                          have hnb136 := NB347_287.out
                          have hnc136 := NB287_347.out
                          have hnb137 := NB347_303.out
                          have hnc137 := NB303_347.out
                          have hnb138 := NB347_309.out
                          have hnc138 := NB309_347.out
                          have hnb139 := NB347_319.out
                          have hnc139 := NB319_347.out
                          have hcz140_0 : w117.cell? ⟨gb347, 0, none⟩ = some (.slice none 0 0) := (blk_cell BK347.out 0).trans rfl
                          have hcz140_1 : w117.cell? ⟨gb347, 1, none⟩ = some (.int .i64 0) := (blk_cell BK347.out 1).trans rfl
                          have hcz140_2 : w117.cell? ⟨gb347, 2, none⟩ = some (.int .i64 0) := (blk_cell BK347.out 2).trans rfl
                          have hcz140_3 : w117.cell? ⟨gb347, 3, none⟩ = some (.string (⟨#[]⟩ : ByteArray)) := (blk_cell BK347.out 3).trans rfl
                          have hcz140_4 : w117.cell? ⟨gb347, 4, none⟩ = some (.string (⟨#[]⟩ : ByteArray)) := (blk_cell BK347.out 4).trans rfl
                          have hcz140_5 : w117.cell? ⟨gb347, 5, none⟩ = some (.int .i64 0) := (blk_cell BK347.out 5).trans rfl
                          have hfz140_0 := blk_frozen BK347.out 0
                          have hfz140_1 := blk_frozen BK347.out 1
                          have hfz140_2 := blk_frozen BK347.out 2
                          have hfz140_3 := blk_frozen BK347.out 3
                          have hfz140_4 := blk_frozen BK347.out 4
                          have hfz140_5 := blk_frozen BK347.out 5
                          have hnb141 := NB303_287.out
                          have hnc141 := NB287_303.out
                          have hnb142 := NB303_309.out
                          have hnc142 := NB309_303.out
                          have hnb143 := NB303_319.out
                          have hnc143 := NB319_303.out
                          have hcz144_0 : w117.cell? ⟨gb303, 0, none⟩ = some (.slice Ao20 t294.length co20) := (blk_cell BK303.out 0).trans rfl
                          have hcz144_1 : w117.cell? ⟨gb303, 1, none⟩ = some (.int .i64 t297) := (blk_cell BK303.out 1).trans rfl
                          have hcz144_2 : w117.cell? ⟨gb303, 2, none⟩ = some (.int .i64 t298) := (blk_cell BK303.out 2).trans rfl
                          have hcz144_3 : w117.cell? ⟨gb303, 3, none⟩ = some (.string t299) := (blk_cell BK303.out 3).trans rfl
                          have hcz144_4 : w117.cell? ⟨gb303, 4, none⟩ = some (.string t300) := (blk_cell BK303.out 4).trans rfl
                          have hcz144_5 : w117.cell? ⟨gb303, 5, none⟩ = some (.int .i64 t301) := (blk_cell BK303.out 5).trans rfl
                          have hfz144_0 := blk_frozen BK303.out 0
                          have hfz144_1 := blk_frozen BK303.out 1
                          have hfz144_2 := blk_frozen BK303.out 2
                          have hfz144_3 := blk_frozen BK303.out 3
                          have hfz144_4 := blk_frozen BK303.out 4
                          have hfz144_5 := blk_frozen BK303.out 5
                          go_wp2_with (first | ((with_reducible refine gate_callee (f := 29) rfl ?_); refine goesL_ (some 81) rfl rfl Try.func29 (by kernel_rfl) rfl #[.agg #[.slice Ao118 t338.length co118, .int .i64 t341, .int .i64 t342, .string t343, .string t344, .int .i64 t345], .agg #[.slice Ao20 t294.length co20, .int .i64 t297, .int .i64 t298, .string t299, .string t300, .int .i64 t301]] rfl (by (try simp only [List.map_toArray, List.map_cons, List.map_nil]); first | done | rfl | (simp only [List.length_drop, List.length_take]; rfl)) ?_; (with_reducible refine (laws_eqConsole.calls kj59 _ _ t338 t341 t342 t343 t344 t345 _ _ t294 t297 t298 t299 t300 t301 false _ ?side1 ?side2 ?side3 ?side4 A124.out).mono ?_); (case side1 => refine (Kd.R_reads' (e := 3) (base := w.heap.size) (ok := fun k_ => ((((True ∧ some k_ ≠ (.slice Ao20 t294.length co20 : Value).ownBlock) ∧ some k_ ≠ (.slice Ao26 t328.length co26 : Value).ownBlock) ∧ some k_ ≠ (.slice Ao32 t310.length co32 : Value).ownBlock) ∧ some k_ ≠ (.slice Ao115 t333.length co115 : Value).ownBlock)) (n := t338.length) (c := co118) ?_).2.2; exact (by (with_reducible repeat (first | apply Kd.R_alloc | apply Kd.R_drewN | apply Kd.R_drew)); exact (Kd.R_mono (Kd.R_far (p := ⟨gb347, 5, none⟩) (Kd.R_far (p := ⟨gb347, 4, none⟩) (Kd.R_far (p := ⟨gb347, 3, none⟩) (Kd.R_far (p := ⟨gb347, 2, none⟩) (Kd.R_far (p := ⟨gb347, 1, none⟩) (Kd.R_far (p := ⟨gb347, 0, none⟩) (Kd.R_types HO340.out BK347.out (by decide)) (fun _ hk => hk.2) (.slice Ao118 t338.length co118)) (fun _ hk => hk.2) (.int .i64 t341)) (fun _ hk => hk.2) (.int .i64 t342)) (fun _ hk => hk.2) (.string t343)) (fun _ hk => hk.2) (.string t344)) (fun _ hk => hk.2) (.int .i64 t345)) (fun _ h_ => h_.1)))); (case side2 => exact (Kd.R_reads' HO340.out).2.1); (case side3 => refine (Kd.R_reads' (e := 3) (base := w.heap.size) (ok := fun k_ => (((some k_ ≠ (.slice Ao26 t328.length co26 : Value).ownBlock ∧ some k_ ≠ (.slice Ao32 t310.length co32 : Value).ownBlock) ∧ some k_ ≠ (.slice Ao115 t333.length co115 : Value).ownBlock) ∧ some k_ ≠ (.slice Ao118 t338.length co118 : Value).ownBlock)) (n := t294.length) (c := co20) ?_).2.2; exact (by (with_reducible repeat (first | apply Kd.R_alloc | apply Kd.R_drewN | apply Kd.R_drew)); exact (Kd.R_mono (Kd.R_far (p := ⟨gb347, 5, none⟩) (Kd.R_far (p := ⟨gb347, 4, none⟩) (Kd.R_far (p := ⟨gb347, 3, none⟩) (Kd.R_far (p := ⟨gb347, 2, none⟩) (Kd.R_far (p := ⟨gb347, 1, none⟩) (Kd.R_far (p := ⟨gb347, 0, none⟩) (Kd.R_types HO_304000.out BK347.out (by decide)) (fun _ hk => hk.2) (.slice Ao118 t338.length co118)) (fun _ hk => hk.2) (.int .i64 t341)) (fun _ hk => hk.2) (.int .i64 t342)) (fun _ hk => hk.2) (.string t343)) (fun _ hk => hk.2) (.string t344)) (fun _ hk => hk.2) (.int .i64 t345)) (fun _ h_ => h_.1)))); (case side4 => exact (Kd.R_reads' HO_304000.out).2.1); rintro e w145 ⟨rfl, hb⟩; refine ⟨_, rfl, ?_⟩; have n0_ := Aside0.mk (Kd.R_below (by (with_reducible repeat (first | apply Kd.R_alloc | apply Kd.R_drewN | apply Kd.R_drew)); exact (Kd.R_mono (Kd.R_far (p := ⟨gb347, 5, none⟩) (Kd.R_far (p := ⟨gb347, 4, none⟩) (Kd.R_far (p := ⟨gb347, 3, none⟩) (Kd.R_far (p := ⟨gb347, 2, none⟩) (Kd.R_far (p := ⟨gb347, 1, none⟩) (Kd.R_far (p := ⟨gb347, 0, none⟩) (Kd.R_types HO_304000.out BK347.out (by decide)) (fun _ hk => hk.2) (.slice Ao118 t338.length co118)) (fun _ hk => hk.2) (.int .i64 t341)) (fun _ hk => hk.2) (.int .i64 t342)) (fun _ hk => hk.2) (.string t343)) (fun _ hk => hk.2) (.string t344)) (fun _ hk => hk.2) (.int .i64 t345)) (fun _ h_ => h_.1))) hb); have n1_ := Aside0.mk (Kd.R_below (by (with_reducible repeat (first | apply Kd.R_alloc | apply Kd.R_drewN | apply Kd.R_drew)); exact (Kd.R_mono (Kd.R_far (p := ⟨gb347, 5, none⟩) (Kd.R_far (p := ⟨gb347, 4, none⟩) (Kd.R_far (p := ⟨gb347, 3, none⟩) (Kd.R_far (p := ⟨gb347, 2, none⟩) (Kd.R_far (p := ⟨gb347, 1, none⟩) (Kd.R_far (p := ⟨gb347, 0, none⟩) (Kd.R_types HO_310000.out BK347.out (by decide)) (fun _ hk => hk.2) (.slice Ao118 t338.length co118)) (fun _ hk => hk.2) (.int .i64 t341)) (fun _ hk => hk.2) (.int .i64 t342)) (fun _ hk => hk.2) (.string t343)) (fun _ hk => hk.2) (.string t344)) (fun _ hk => hk.2) (.int .i64 t345)) (fun _ h_ => h_.1))) hb); have n2_ := Aside0.mk (Kd.R_below (by (with_reducible repeat (first | apply Kd.R_alloc | apply Kd.R_drewN | apply Kd.R_drew)); exact (Kd.R_mono (Kd.R_far (p := ⟨gb347, 5, none⟩) (Kd.R_far (p := ⟨gb347, 4, none⟩) (Kd.R_far (p := ⟨gb347, 3, none⟩) (Kd.R_far (p := ⟨gb347, 2, none⟩) (Kd.R_far (p := ⟨gb347, 1, none⟩) (Kd.R_far (p := ⟨gb347, 0, none⟩) (Kd.R_types HO_320000.out BK347.out (by decide)) (fun _ hk => hk.2) (.slice Ao118 t338.length co118)) (fun _ hk => hk.2) (.int .i64 t341)) (fun _ hk => hk.2) (.int .i64 t342)) (fun _ hk => hk.2) (.string t343)) (fun _ hk => hk.2) (.string t344)) (fun _ hk => hk.2) (.int .i64 t345)) (fun _ h_ => h_.1))) hb); have n3_ := Aside0.mk (Kd.R_below (by (with_reducible repeat (first | apply Kd.R_alloc | apply Kd.R_drewN | apply Kd.R_drew)); exact (Kd.R_mono (Kd.R_far (p := ⟨gb347, 5, none⟩) (Kd.R_far (p := ⟨gb347, 4, none⟩) (Kd.R_far (p := ⟨gb347, 3, none⟩) (Kd.R_far (p := ⟨gb347, 2, none⟩) (Kd.R_far (p := ⟨gb347, 1, none⟩) (Kd.R_far (p := ⟨gb347, 0, none⟩) (Kd.R_types HO335.out BK347.out (by decide)) (fun _ hk => hk.2) (.slice Ao118 t338.length co118)) (fun _ hk => hk.2) (.int .i64 t341)) (fun _ hk => hk.2) (.int .i64 t342)) (fun _ hk => hk.2) (.string t343)) (fun _ hk => hk.2) (.string t344)) (fun _ hk => hk.2) (.int .i64 t345)) (fun _ h_ => h_.1))) hb); have n4_ := Aside0.mk (Kd.R_below (by (with_reducible repeat (first | apply Kd.R_alloc | apply Kd.R_drewN | apply Kd.R_drew)); exact (Kd.R_mono (Kd.R_far (p := ⟨gb347, 5, none⟩) (Kd.R_far (p := ⟨gb347, 4, none⟩) (Kd.R_far (p := ⟨gb347, 3, none⟩) (Kd.R_far (p := ⟨gb347, 2, none⟩) (Kd.R_far (p := ⟨gb347, 1, none⟩) (Kd.R_far (p := ⟨gb347, 0, none⟩) (Kd.R_types HO340.out BK347.out (by decide)) (fun _ hk => hk.2) (.slice Ao118 t338.length co118)) (fun _ hk => hk.2) (.int .i64 t341)) (fun _ hk => hk.2) (.int .i64 t342)) (fun _ hk => hk.2) (.string t343)) (fun _ hk => hk.2) (.string t344)) (fun _ hk => hk.2) (.int .i64 t345)) (fun _ h_ => h_.1))) hb); have n5_ := Aside0.mk (blk_below (g := gb287) (o := .cells #[.slice A0_0 l0_0.length c0_0, .int .i64 a0_1, .int .i64 a0_2] 24 (0, 0)) (by (with_reducible repeat (first | refine blk_drewN ?_ _ | refine blk_drew ?_ | refine blk_alloc ?_ _)); refine blk_far ?_ NB287_347.out _; (with_reducible repeat (first | refine blk_drewN ?_ _ | refine blk_drew ?_ | refine blk_alloc ?_ _)); refine blk_far ?_ NB287_347.out _; (with_reducible repeat (first | refine blk_drewN ?_ _ | refine blk_drew ?_ | refine blk_alloc ?_ _)); refine blk_far ?_ NB287_347.out _; (with_reducible repeat (first | refine blk_drewN ?_ _ | refine blk_drew ?_ | refine blk_alloc ?_ _)); refine blk_far ?_ NB287_347.out _; (with_reducible repeat (first | refine blk_drewN ?_ _ | refine blk_drew ?_ | refine blk_alloc ?_ _)); refine blk_far ?_ NB287_347.out _; (with_reducible repeat (first | refine blk_drewN ?_ _ | refine blk_drew ?_ | refine blk_alloc ?_ _)); refine blk_far ?_ NB287_347.out _; (with_reducible repeat (first | refine blk_drewN ?_ _ | refine blk_drew ?_ | refine blk_alloc ?_ _)); exact BK287.out) hb); have n6_ := Aside0.mk (blk_below (g := gb303) (o := .cells #[.slice Ao20 t294.length co20, .int .i64 t297, .int .i64 t298, .string t299, .string t300, .int .i64 t301] 41 (0, 0)) (by (with_reducible repeat (first | refine blk_drewN ?_ _ | refine blk_drew ?_ | refine blk_alloc ?_ _)); refine blk_far ?_ NB303_347.out _; (with_reducible repeat (first | refine blk_drewN ?_ _ | refine blk_drew ?_ | refine blk_alloc ?_ _)); refine blk_far ?_ NB303_347.out _; (with_reducible repeat (first | refine blk_drewN ?_ _ | refine blk_drew ?_ | refine blk_alloc ?_ _)); refine blk_far ?_ NB303_347.out _; (with_reducible repeat (first | refine blk_drewN ?_ _ | refine blk_drew ?_ | refine blk_alloc ?_ _)); refine blk_far ?_ NB303_347.out _; (with_reducible repeat (first | refine blk_drewN ?_ _ | refine blk_drew ?_ | refine blk_alloc ?_ _)); refine blk_far ?_ NB303_347.out _; (with_reducible repeat (first | refine blk_drewN ?_ _ | refine blk_drew ?_ | refine blk_alloc ?_ _)); refine blk_far ?_ NB303_347.out _; (with_reducible repeat (first | refine blk_drewN ?_ _ | refine blk_drew ?_ | refine blk_alloc ?_ _)); exact BK303.out) hb); have n7_ := Aside0.mk (blk_below (g := gb309) (o := .cells #[.slice Ao26 t328.length co26, .int .i64 t307, .int .i64 t308] 27 (0, 0)) (by (with_reducible repeat (first | refine blk_drewN ?_ _ | refine blk_drew ?_ | refine blk_alloc ?_ _)); refine blk_far ?_ NB309_347.out _; (with_reducible repeat (first | refine blk_drewN ?_ _ | refine blk_drew ?_ | refine blk_alloc ?_ _)); refine blk_far ?_ NB309_347.out _; (with_reducible repeat (first | refine blk_drewN ?_ _ | refine blk_drew ?_ | refine blk_alloc ?_ _)); refine blk_far ?_ NB309_347.out _; (with_reducible repeat (first | refine blk_drewN ?_ _ | refine blk_drew ?_ | refine blk_alloc ?_ _)); refine blk_far ?_ NB309_347.out _; (with_reducible repeat (first | refine blk_drewN ?_ _ | refine blk_drew ?_ | refine blk_alloc ?_ _)); refine blk_far ?_ NB309_347.out _; (with_reducible repeat (first | refine blk_drewN ?_ _ | refine blk_drew ?_ | refine blk_alloc ?_ _)); refine blk_far ?_ NB309_347.out _; (with_reducible repeat (first | refine blk_drewN ?_ _ | refine blk_drew ?_ | refine blk_alloc ?_ _)); exact BK309.out) hb); have n8_ := Aside0.mk (blk_below (g := gb319) (o := .cells #[.slice Ao32 t310.length co32, .int .i64 t313, .int .i64 t314, .string t315, .string t316, .int .i64 t317] 41 (0, 0)) (by (with_reducible repeat (first | refine blk_drewN ?_ _ | refine blk_drew ?_ | refine blk_alloc ?_ _)); refine blk_far ?_ NB319_347.out _; (with_reducible repeat (first | refine blk_drewN ?_ _ | refine blk_drew ?_ | refine blk_alloc ?_ _)); refine blk_far ?_ NB319_347.out _; (with_reducible repeat (first | refine blk_drewN ?_ _ | refine blk_drew ?_ | refine blk_alloc ?_ _)); refine blk_far ?_ NB319_347.out _; (with_reducible repeat (first | refine blk_drewN ?_ _ | refine blk_drew ?_ | refine blk_alloc ?_ _)); refine blk_far ?_ NB319_347.out _; (with_reducible repeat (first | refine blk_drewN ?_ _ | refine blk_drew ?_ | refine blk_alloc ?_ _)); refine blk_far ?_ NB319_347.out _; (with_reducible repeat (first | refine blk_drewN ?_ _ | refine blk_drew ?_ | refine blk_alloc ?_ _)); refine blk_far ?_ NB319_347.out _; (with_reducible repeat (first | refine blk_drewN ?_ _ | refine blk_drew ?_ | refine blk_alloc ?_ _)); exact BK319.out) hb); have n9_ := Aside0.mk (blk_below (g := gb347) (o := .cells #[.slice Ao118 t338.length co118, .int .i64 t341, .int .i64 t342, .string t343, .string t344, .int .i64 t345] 41 (0, 0)) (by (with_reducible repeat (first | refine blk_drewN ?_ _ | refine blk_drew ?_ | refine blk_alloc ?_ _)); refine blk_put (cs := #[.slice Ao118 t338.length co118, .int .i64 t341, .int .i64 t342, .string t343, .string t344, .int .i64 0]) ?_ 5 _ rfl; (with_reducible repeat (first | refine blk_drewN ?_ _ | refine blk_drew ?_ | refine blk_alloc ?_ _)); refine blk_put (cs := #[.slice Ao118 t338.length co118, .int .i64 t341, .int .i64 t342, .string t343, .string (⟨#[]⟩ : ByteArray), .int .i64 0]) ?_ 4 _ rfl; (with_reducible repeat (first | refine blk_drewN ?_ _ | refine blk_drew ?_ | refine blk_alloc ?_ _)); refine blk_put (cs := #[.slice Ao118 t338.length co118, .int .i64 t341, .int .i64 t342, .string (⟨#[]⟩ : ByteArray), .string (⟨#[]⟩ : ByteArray), .int .i64 0]) ?_ 3 _ rfl; (with_reducible repeat (first | refine blk_drewN ?_ _ | refine blk_drew ?_ | refine blk_alloc ?_ _)); refine blk_put (cs := #[.slice Ao118 t338.length co118, .int .i64 t341, .int .i64 0, .string (⟨#[]⟩ : ByteArray), .string (⟨#[]⟩ : ByteArray), .int .i64 0]) ?_ 2 _ rfl; (with_reducible repeat (first | refine blk_drewN ?_ _ | refine blk_drew ?_ | refine blk_alloc ?_ _)); refine blk_put (cs := #[.slice Ao118 t338.length co118, .int .i64 0, .int .i64 0, .string (⟨#[]⟩ : ByteArray), .string (⟨#[]⟩ : ByteArray), .int .i64 0]) ?_ 1 _ rfl; (with_reducible repeat (first | refine blk_drewN ?_ _ | refine blk_drew ?_ | refine blk_alloc ?_ _)); refine blk_put (cs := #[.slice none 0 0, .int .i64 0, .int .i64 0, .string (⟨#[]⟩ : ByteArray), .string (⟨#[]⟩ : ByteArray), .int .i64 0]) ?_ 0 _ rfl; (with_reducible repeat (first | refine blk_drewN ?_ _ | refine blk_drew ?_ | refine blk_alloc ?_ _)); exact BK347.out) hb); have n10_ := Aside0.mk (below_step (by repeat (first | (with_reducible first | exact HB.out | apply below_alloc | apply pw_below_drewN | apply below_drew1 | refine below_set ?_ GE287.out | refine below_set ?_ GE303.out | refine below_set ?_ GE309.out | refine below_set ?_ GE319.out | refine below_set ?_ GE347.out) | exact HB.out)) hb); clear HO_304000; clear HO_310000; clear HO_320000; clear HO335; clear HO340; clear BK287; clear BK303; clear BK309; clear BK319; clear BK347; clear HB; have HO_304000 := n0_; have HO_310000 := n1_; have HO_320000 := n2_; have HO335 := n3_; have HO340 := n4_; have BK287 := n5_; have BK303 := n6_; have BK309 := n7_; have BK319 := n8_; have BK347 := n9_; have HB := n10_; clear n0_ n1_ n2_ n3_ n4_ n5_ n6_ n7_ n8_ n9_ n10_; (try clear hb); (try clear hb2); (try clear hk); (try clear hi)))
                          go_meet
                          case rel => exact ⟨_, (true), (by first | rfl | (simp; done) | (simp [*]; done)), H', ⟨by have := HJ10.out; have := HJ59.out; first | omega | exact Nat.le_refl _⟩, ⟨by (try simp only [hl310000_59]); (with_reducible repeat (first | apply Kd.R_alloc | apply Kd.R_drewN | apply Kd.R_drew)); exact Kd.R_mono HO_304000.out (fun _ hk => ⟨hk.1.1.1, ⟨hk.1.1.2, hk.2⟩⟩)⟩, ⟨by (try simp only [hl310000_59]); (with_reducible repeat (first | apply Kd.R_alloc | apply Kd.R_drewN | apply Kd.R_drew)); exact Kd.R_mono HO_310000.out (fun _ hk => ⟨hk.1.1.1, ⟨hk.1.1.2, hk.2⟩⟩)⟩, ⟨by (try simp only [hl310000_59]); (with_reducible repeat (first | apply Kd.R_alloc | apply Kd.R_drewN | apply Kd.R_drew)); exact Kd.R_mono HO_320000.out (fun _ hk => ⟨hk.1.1.1, ⟨hk.1.1.2, hk.2⟩⟩)⟩, ⟨by (try simp only [hl310000_59]); (with_reducible repeat (first | apply Kd.R_alloc | apply Kd.R_drewN | apply Kd.R_drew)); exact Kd.R_mono HO340.out (fun _ hk => ⟨hk.1.1.1.2, ⟨hk.1.1.2, hk.1.2⟩⟩)⟩, ⟨by (try simp only [hl310000_59]); (with_reducible repeat (first | refine blk_drewN ?_ _ | refine blk_drew ?_ | refine blk_alloc ?_ _)); exact BK287.out⟩, ⟨by (try simp only [hl310000_59]); (with_reducible repeat (first | refine blk_drewN ?_ _ | refine blk_drew ?_ | refine blk_alloc ?_ _)); exact BK303.out⟩, ⟨by (try simp only [hl310000_59]); (with_reducible repeat (first | refine blk_drewN ?_ _ | refine blk_drew ?_ | refine blk_alloc ?_ _)); exact BK309.out⟩, ⟨by (try simp only [hl310000_59]); (with_reducible repeat (first | refine blk_drewN ?_ _ | refine blk_drew ?_ | refine blk_alloc ?_ _)); exact BK319.out⟩, ⟨by (try simp only [hl310000_59]); (with_reducible repeat (first | refine blk_drewN ?_ _ | refine blk_drew ?_ | refine blk_alloc ?_ _)); exact BK347.out⟩, ⟨by repeat (first | (with_reducible first | exact HB.out | apply below_alloc | apply pw_below_drewN | apply below_drew1 | refine below_set ?_ GE287.out | refine below_set ?_ GE303.out | refine below_set ?_ GE309.out | refine below_set ?_ GE319.out | refine below_set ?_ GE347.out) | exact HB.out)⟩⟩
                      case rest =>
                        clear HC103
                        try clear c1
                        try clear c2
                        try clear p2
                        try clear c3
                        try clear c3b0
                        try clear c4
                        try clear c5
                        try clear c6
                        try clear c7
                        try clear c8
                        try clear c9
                        try clear c10
                        try clear c11
                        try clear c12
                        try clear c13
                        try clear c14
                        try clear c15
                        try clear c17
                        try clear c19
                        try clear c21
                        try clear c25
                        try clear c27
                        try clear c28
                        try clear c29
                        try clear c30
                        try clear c31
                        try clear c33
                        try clear c34
                        try clear c35
                        try clear c38
                        try clear c39
                        try clear c40
                        try clear c41
                        try clear c43
                        try clear c44
                        try clear c47
                        try clear c48
                        try clear c49
                        try clear c51
                        try clear c52
                        try clear c55
                        try clear c58
                        try clear c65
                        try clear c66
                        try clear c67
                        try clear c70
                        try clear c70b0
                        try clear c72
                        try clear c73
                        try clear c74
                        try clear c75
                        try clear c77
                        try clear c78
                        try clear c81
                        try clear c82
                        try clear c83
                        try clear c85
                        try clear c86
                        try clear c89
                        try clear c92
                        try clear c92b0
                        try clear c93
                        try clear c94
                        try clear c95
                        try clear c100
                        try clear c100b0
                        try clear c100b1
                        try clear c104
                        try clear c105
                        try clear c106
                        try clear c111
                        try clear c112
                        try clear c119
                        try clear c120
                        try clear c121
                        try clear c122
                        try clear c125
                        try clear c126
                        try clear c127
                        try clear c128
                        try clear c129
                        try clear c131
                        try clear c132
                        try clear c133
                        try clear c136
                        try clear c137
                        try clear c138
                        try clear c139
                        try clear c141
                        try clear c142
                        try clear c143
                        try clear hcz107_0
                        try clear hcz107_1
                        try clear hcz107_2
                        try clear hcz107_3
                        try clear hcz107_4
                        try clear hcz107_5
                        try clear hcz109_0
                        try clear hcz109_1
                        try clear hcz109_2
                        try clear hcz109_3
                        try clear hcz109_4
                        try clear hcz109_5
                        try clear hcz113_0
                        try clear hcz113_1
                        try clear hcz113_2
                        try clear hcz123_0
                        try clear hcz123_1
                        try clear hcz123_2
                        try clear hcz123_3
                        try clear hcz123_4
                        try clear hcz123_5
                        try clear hcz130_0
                        try clear hcz130_1
                        try clear hcz130_2
                        try clear hcz130_3
                        try clear hcz130_4
                        try clear hcz130_5
                        try clear hcz134_0
                        try clear hcz134_1
                        try clear hcz134_2
                        try clear hcz134_3
                        try clear hcz134_4
                        try clear hcz134_5
                        try clear hcz13_0
                        try clear hcz13_1
                        try clear hcz13_2
                        try clear hcz140_0
                        try clear hcz140_1
                        try clear hcz140_2
                        try clear hcz140_3
                        try clear hcz140_4
                        try clear hcz140_5
                        try clear hcz144_0
                        try clear hcz144_1
                        try clear hcz144_2
                        try clear hcz144_3
                        try clear hcz144_4
                        try clear hcz144_5
                        try clear hcz15_0
                        try clear hcz15_1
                        try clear hcz15_2
                        try clear hcz22_0
                        try clear hcz22_1
                        try clear hcz22_2
                        try clear hcz22_3
                        try clear hcz22_4
                        try clear hcz22_5
                        try clear hcz23_0
                        try clear hcz23_1
                        try clear hcz23_2
                        try clear hcz29_0
                        try clear hcz29_1
                        try clear hcz29_2
                        try clear hcz36_0
                        try clear hcz36_1
                        try clear hcz36_2
                        try clear hcz36_3
                        try clear hcz36_4
                        try clear hcz36_5
                        try clear hcz42_0
                        try clear hcz42_1
                        try clear hcz42_2
                        try clear hcz42_3
                        try clear hcz42_4
                        try clear hcz42_5
                        try clear hcz45_0
                        try clear hcz45_1
                        try clear hcz45_2
                        try clear hcz45_3
                        try clear hcz45_4
                        try clear hcz45_5
                        try clear hcz50_0
                        try clear hcz50_1
                        try clear hcz50_2
                        try clear hcz50_3
                        try clear hcz50_4
                        try clear hcz50_5
                        try clear hcz53_0
                        try clear hcz53_1
                        try clear hcz53_2
                        try clear hcz53_3
                        try clear hcz53_4
                        try clear hcz53_5
                        try clear hcz5_0
                        try clear hcz5_1
                        try clear hcz5_2
                        try clear hcz68_0
                        try clear hcz68_1
                        try clear hcz68_2
                        try clear hcz76_0
                        try clear hcz76_1
                        try clear hcz76_2
                        try clear hcz76_3
                        try clear hcz76_4
                        try clear hcz76_5
                        try clear hcz79_0
                        try clear hcz79_1
                        try clear hcz79_2
                        try clear hcz79_3
                        try clear hcz79_4
                        try clear hcz79_5
                        try clear hcz84_0
                        try clear hcz84_1
                        try clear hcz84_2
                        try clear hcz84_3
                        try clear hcz84_4
                        try clear hcz84_5
                        try clear hcz87_0
                        try clear hcz87_1
                        try clear hcz87_2
                        try clear hcz87_3
                        try clear hcz87_4
                        try clear hcz87_5
                        try clear hcz96_0
                        try clear hcz96_1
                        try clear hcz96_2
                        try clear hcz96_3
                        try clear hcz96_4
                        try clear hcz96_5
                        try clear hcz98_0
                        try clear hcz98_1
                        try clear hcz98_2
                        try clear hcz98_3
                        try clear hcz98_4
                        try clear hcz98_5
                        try clear hfz107_0
                        try clear hfz107_1
                        try clear hfz107_2
                        try clear hfz107_3
                        try clear hfz107_4
                        try clear hfz107_5
                        try clear hfz109_0
                        try clear hfz109_1
                        try clear hfz109_2
                        try clear hfz109_3
                        try clear hfz109_4
                        try clear hfz109_5
                        try clear hfz113_0
                        try clear hfz113_1
                        try clear hfz113_2
                        try clear hfz123_0
                        try clear hfz123_1
                        try clear hfz123_2
                        try clear hfz123_3
                        try clear hfz123_4
                        try clear hfz123_5
                        try clear hfz130_0
                        try clear hfz130_1
                        try clear hfz130_2
                        try clear hfz130_3
                        try clear hfz130_4
                        try clear hfz130_5
                        try clear hfz134_0
                        try clear hfz134_1
                        try clear hfz134_2
                        try clear hfz134_3
                        try clear hfz134_4
                        try clear hfz134_5
                        try clear hfz13_0
                        try clear hfz13_1
                        try clear hfz13_2
                        try clear hfz140_0
                        try clear hfz140_1
                        try clear hfz140_2
                        try clear hfz140_3
                        try clear hfz140_4
                        try clear hfz140_5
                        try clear hfz144_0
                        try clear hfz144_1
                        try clear hfz144_2
                        try clear hfz144_3
                        try clear hfz144_4
                        try clear hfz144_5
                        try clear hfz15_0
                        try clear hfz15_1
                        try clear hfz15_2
                        try clear hfz22_0
                        try clear hfz22_1
                        try clear hfz22_2
                        try clear hfz22_3
                        try clear hfz22_4
                        try clear hfz22_5
                        try clear hfz23_0
                        try clear hfz23_1
                        try clear hfz23_2
                        try clear hfz29_0
                        try clear hfz29_1
                        try clear hfz29_2
                        try clear hfz36_0
                        try clear hfz36_1
                        try clear hfz36_2
                        try clear hfz36_3
                        try clear hfz36_4
                        try clear hfz36_5
                        try clear hfz42_0
                        try clear hfz42_1
                        try clear hfz42_2
                        try clear hfz42_3
                        try clear hfz42_4
                        try clear hfz42_5
                        try clear hfz45_0
                        try clear hfz45_1
                        try clear hfz45_2
                        try clear hfz45_3
                        try clear hfz45_4
                        try clear hfz45_5
                        try clear hfz50_0
                        try clear hfz50_1
                        try clear hfz50_2
                        try clear hfz50_3
                        try clear hfz50_4
                        try clear hfz50_5
                        try clear hfz53_0
                        try clear hfz53_1
                        try clear hfz53_2
                        try clear hfz53_3
                        try clear hfz53_4
                        try clear hfz53_5
                        try clear hfz5_0
                        try clear hfz5_1
                        try clear hfz5_2
                        try clear hfz68_0
                        try clear hfz68_1
                        try clear hfz68_2
                        try clear hfz76_0
                        try clear hfz76_1
                        try clear hfz76_2
                        try clear hfz76_3
                        try clear hfz76_4
                        try clear hfz76_5
                        try clear hfz79_0
                        try clear hfz79_1
                        try clear hfz79_2
                        try clear hfz79_3
                        try clear hfz79_4
                        try clear hfz79_5
                        try clear hfz84_0
                        try clear hfz84_1
                        try clear hfz84_2
                        try clear hfz84_3
                        try clear hfz84_4
                        try clear hfz84_5
                        try clear hfz87_0
                        try clear hfz87_1
                        try clear hfz87_2
                        try clear hfz87_3
                        try clear hfz87_4
                        try clear hfz87_5
                        try clear hfz96_0
                        try clear hfz96_1
                        try clear hfz96_2
                        try clear hfz96_3
                        try clear hfz96_4
                        try clear hfz96_5
                        try clear hfz98_0
                        try clear hfz98_1
                        try clear hfz98_2
                        try clear hfz98_3
                        try clear hfz98_4
                        try clear hfz98_5
                        try clear p2
                        obtain ⟨kq, x87_102, rfl, HA, HJ102, HO_304000, HO_310000, HO_320000, HO_348000, BK287, BK303, BK309, BK319, BK347, HB⟩ := hcut
                        have hl320000_102 := (Kd.R_reads' HO_320000.out).1
                        rw [hl320000_102] at HO_320000
                        (try simp only [hl320000_102])
                        (try simp only [hl320000_102] at BK287)
                        (try simp only [hl320000_102] at BK303)
                        (try simp only [hl320000_102] at BK309)
                        (try simp only [hl320000_102] at BK319)
                        (try simp only [hl320000_102] at BK347)
                        (try simp only [hl320000_102] at HO_304000)
                        (try simp only [hl320000_102] at HO_310000)
                        (try simp only [hl320000_102] at HO_348000)
                        cases kq with
                        | zero => exact absurd HA.out (by simp [laws_FnExactNewConsole.j2])
                        | succ kj102 =>
                          have H := HA.out
                          clear HA
                          simp only [laws_FnExactNewConsole.j2] at H
                          by_cases c146 : x87_102 = true
                          · subst c146
                            have H1 : (some false) = some r := by rw [if_pos rfl] at H; exact H
                            clear H
                            have H := H1
                            clear H1
                            obtain rfl := Option.some.inj H
                            go_wp2
                            go_ret
                            exact ⟨by first | rfl | (simp [errW_none, errW_some] <;> rfl) | (simp [*, errW_none, errW_some] <;> rfl), by repeat (first | (with_reducible first | exact HB.out | apply below_alloc | apply pw_below_drewN | apply below_drew1 | refine below_set ?_ GE287.out | refine below_set ?_ GE303.out | refine below_set ?_ GE309.out | refine below_set ?_ GE319.out | refine below_set ?_ GE347.out) | exact HB.out)⟩
                          · replace c146 := Bool.eq_false_iff.mpr c146
                            subst c146
                            have H1 : ((laws_heldConsole.f kj102 t331 t313 t314 t315 t316 t317 1).bind fun t349 => (if t349 < 0 then (some false) else (if t349 = t330 then (some true) else (some false)))) = some r := by rw [if_neg (show ¬ (false = true) by decide)] at H; exact H
                            clear H
                            have H := H1
                            clear H1
                            replace H := Option.bind_eq_some_iff.mp H
                            obtain ⟨t349, A1470, H⟩ := H
                            replace H : (if t349 < 0 then (some false) else (if t349 = t330 then (some true) else (some false))) = some r := H
                            have A147 := Aside0.mk A1470
                            clear A1470
                            by_cases c148 : t349 < 0
                            · rw [if_pos c148] at H
                              have c148b0 : decide (t349 < 0) = true := decide_eq_true c148
                              clear c148
                              obtain rfl := Option.some.inj H
                              have hnb149 := NB319_287.out
                              have hnc149 := NB287_319.out
                              have hnb150 := NB319_303.out
                              have hnc150 := NB303_319.out
                              have hnb151 := NB319_309.out
                              have hnc151 := NB309_319.out
                              have hnb152 := NB319_347.out
                              have hnc152 := NB347_319.out
                              have hcz153_0 : wc.cell? ⟨gb319, 0, none⟩ = some (.slice Ao32 t331.length co32) := (blk_cell BK319.out 0).trans rfl
                              have hcz153_1 : wc.cell? ⟨gb319, 1, none⟩ = some (.int .i64 t313) := (blk_cell BK319.out 1).trans rfl
                              have hcz153_2 : wc.cell? ⟨gb319, 2, none⟩ = some (.int .i64 t314) := (blk_cell BK319.out 2).trans rfl
                              have hcz153_3 : wc.cell? ⟨gb319, 3, none⟩ = some (.string t315) := (blk_cell BK319.out 3).trans rfl
                              have hcz153_4 : wc.cell? ⟨gb319, 4, none⟩ = some (.string t316) := (blk_cell BK319.out 4).trans rfl
                              have hcz153_5 : wc.cell? ⟨gb319, 5, none⟩ = some (.int .i64 t317) := (blk_cell BK319.out 5).trans rfl
                              have hfz153_0 := blk_frozen BK319.out 0
                              have hfz153_1 := blk_frozen BK319.out 1
                              have hfz153_2 := blk_frozen BK319.out 2
                              have hfz153_3 := blk_frozen BK319.out 3
                              have hfz153_4 := blk_frozen BK319.out 4
                              have hfz153_5 := blk_frozen BK319.out 5
                              go_wp2_with (first | ((with_reducible refine gate_callee (f := 31) rfl ?_); refine goesL_ (some 90) rfl rfl Try.func31 (by kernel_rfl) rfl #[.agg #[.slice Ao32 t331.length co32, .int .i64 t313, .int .i64 t314, .string t315, .string t316, .int .i64 t317], .int .i64 1] rfl (by (try simp only [List.map_toArray, List.map_cons, List.map_nil]); first | done | rfl | (simp only [List.length_drop, List.length_take]; rfl)) ?_; (with_reducible refine (laws_heldConsole.calls kj102 _ _ t331 t313 t314 t315 t316 t317 1 t349 _ ?side1 ?side2 A147.out).mono ?_); (case side1 => repeat (first | exact (Kd.R_reads' HO_320000.out).2.2 | (with_reducible refine Kd.C_alloc ?_ _) | (with_reducible refine Kd.C_drewN ?_ _) | (with_reducible refine Kd.C_drew ?_))); (case side2 => exact (Kd.R_reads' HO_320000.out).2.1); rintro e w154 ⟨rfl, hb⟩; refine ⟨_, rfl, ?_⟩; have n0_ := Aside0.mk (Kd.R_below (by (with_reducible repeat (first | apply Kd.R_alloc | apply Kd.R_drewN | apply Kd.R_drew)); exact HO_304000.out) hb); have n1_ := Aside0.mk (Kd.R_below (by (with_reducible repeat (first | apply Kd.R_alloc | apply Kd.R_drewN | apply Kd.R_drew)); exact HO_310000.out) hb); have n2_ := Aside0.mk (Kd.R_below (by (with_reducible repeat (first | apply Kd.R_alloc | apply Kd.R_drewN | apply Kd.R_drew)); exact HO_320000.out) hb); have n3_ := Aside0.mk (Kd.R_below (by (with_reducible repeat (first | apply Kd.R_alloc | apply Kd.R_drewN | apply Kd.R_drew)); exact HO_348000.out) hb); have n4_ := Aside0.mk (blk_below (g := gb287) (o := .cells #[.slice A0_0 l0_0.length c0_0, .int .i64 a0_1, .int .i64 a0_2] 24 (0, 0)) (by (with_reducible repeat (first | refine blk_drewN ?_ _ | refine blk_drew ?_ | refine blk_alloc ?_ _)); exact BK287.out) hb); have n5_ := Aside0.mk (blk_below (g := gb303) (o := .cells #[.slice Ao20 t294.length co20, .int .i64 t297, .int .i64 t298, .string t299, .string t300, .int .i64 t301] 41 (0, 0)) (by (with_reducible repeat (first | refine blk_drewN ?_ _ | refine blk_drew ?_ | refine blk_alloc ?_ _)); exact BK303.out) hb); have n6_ := Aside0.mk (blk_below (g := gb309) (o := .cells #[.slice Ao26 t328.length co26, .int .i64 t307, .int .i64 t308] 27 (0, 0)) (by (with_reducible repeat (first | refine blk_drewN ?_ _ | refine blk_drew ?_ | refine blk_alloc ?_ _)); exact BK309.out) hb); have n7_ := Aside0.mk (blk_below (g := gb319) (o := .cells #[.slice Ao32 t331.length co32, .int .i64 t313, .int .i64 t314, .string t315, .string t316, .int .i64 t317] 41 (0, 0)) (by (with_reducible repeat (first | refine blk_drewN ?_ _ | refine blk_drew ?_ | refine blk_alloc ?_ _)); exact BK319.out) hb); have n8_ := Aside0.mk (blk_below (g := gb347) (o := .cells #[.slice Ao118 t338.length co118, .int .i64 t341, .int .i64 t342, .string t343, .string t344, .int .i64 t345] 41 (0, 0)) (by (with_reducible repeat (first | refine blk_drewN ?_ _ | refine blk_drew ?_ | refine blk_alloc ?_ _)); exact BK347.out) hb); have n9_ := Aside0.mk (below_step (by repeat (first | (with_reducible first | exact HB.out | apply below_alloc | apply pw_below_drewN | apply below_drew1 | refine below_set ?_ GE287.out | refine below_set ?_ GE303.out | refine below_set ?_ GE309.out | refine below_set ?_ GE319.out | refine below_set ?_ GE347.out) | exact HB.out)) hb); clear HO_304000; clear HO_310000; clear HO_320000; clear HO_348000; clear BK287; clear BK303; clear BK309; clear BK319; clear BK347; clear HB; have HO_304000 := n0_; have HO_310000 := n1_; have HO_320000 := n2_; have HO_348000 := n3_; have BK287 := n4_; have BK303 := n5_; have BK309 := n6_; have BK319 := n7_; have BK347 := n8_; have HB := n9_; clear n0_ n1_ n2_ n3_ n4_ n5_ n6_ n7_ n8_ n9_; (try clear hb); (try clear hb2); (try clear hk); (try clear hi)))
                              go_ret
                              exact ⟨by first | rfl | (simp [errW_none, errW_some] <;> rfl) | (simp [*, errW_none, errW_some] <;> rfl), by repeat (first | (with_reducible first | exact HB.out | apply below_alloc | apply pw_below_drewN | apply below_drew1 | refine below_set ?_ GE287.out | refine below_set ?_ GE303.out | refine below_set ?_ GE309.out | refine below_set ?_ GE319.out | refine below_set ?_ GE347.out) | exact HB.out)⟩
                            · rw [if_neg c148] at H
                              have c148b0 : decide (t349 < 0) = false := decide_eq_false c148
                              clear c148
                              by_cases c155 : t349 = t330
                              · rw [if_pos c155] at H
                                have c155b0 : (t349 == t330) = true := beq_iff_eq.mpr c155
                                have c155b1 : (t349 != t330) = false := bne_eq_false_iff_eq.mpr c155
                                clear c155
                                obtain rfl := Option.some.inj H
                                have hnb156 := NB319_287.out
                                have hnc156 := NB287_319.out
                                have hnb157 := NB319_303.out
                                have hnc157 := NB303_319.out
                                have hnb158 := NB319_309.out
                                have hnc158 := NB309_319.out
                                have hnb159 := NB319_347.out
                                have hnc159 := NB347_319.out
                                have hcz160_0 : wc.cell? ⟨gb319, 0, none⟩ = some (.slice Ao32 t331.length co32) := (blk_cell BK319.out 0).trans rfl
                                have hcz160_1 : wc.cell? ⟨gb319, 1, none⟩ = some (.int .i64 t313) := (blk_cell BK319.out 1).trans rfl
                                have hcz160_2 : wc.cell? ⟨gb319, 2, none⟩ = some (.int .i64 t314) := (blk_cell BK319.out 2).trans rfl
                                have hcz160_3 : wc.cell? ⟨gb319, 3, none⟩ = some (.string t315) := (blk_cell BK319.out 3).trans rfl
                                have hcz160_4 : wc.cell? ⟨gb319, 4, none⟩ = some (.string t316) := (blk_cell BK319.out 4).trans rfl
                                have hcz160_5 : wc.cell? ⟨gb319, 5, none⟩ = some (.int .i64 t317) := (blk_cell BK319.out 5).trans rfl
                                have hfz160_0 := blk_frozen BK319.out 0
                                have hfz160_1 := blk_frozen BK319.out 1
                                have hfz160_2 := blk_frozen BK319.out 2
                                have hfz160_3 := blk_frozen BK319.out 3
                                have hfz160_4 := blk_frozen BK319.out 4
                                have hfz160_5 := blk_frozen BK319.out 5
                                go_wp2_with (first | ((with_reducible refine gate_callee (f := 31) rfl ?_); refine goesL_ (some 90) rfl rfl Try.func31 (by kernel_rfl) rfl #[.agg #[.slice Ao32 t331.length co32, .int .i64 t313, .int .i64 t314, .string t315, .string t316, .int .i64 t317], .int .i64 1] rfl (by (try simp only [List.map_toArray, List.map_cons, List.map_nil]); first | done | rfl | (simp only [List.length_drop, List.length_take]; rfl)) ?_; (with_reducible refine (laws_heldConsole.calls kj102 _ _ t331 t313 t314 t315 t316 t317 1 t349 _ ?side1 ?side2 A147.out).mono ?_); (case side1 => repeat (first | exact (Kd.R_reads' HO_320000.out).2.2 | (with_reducible refine Kd.C_alloc ?_ _) | (with_reducible refine Kd.C_drewN ?_ _) | (with_reducible refine Kd.C_drew ?_))); (case side2 => exact (Kd.R_reads' HO_320000.out).2.1); rintro e w161 ⟨rfl, hb⟩; refine ⟨_, rfl, ?_⟩; have n0_ := Aside0.mk (Kd.R_below (by (with_reducible repeat (first | apply Kd.R_alloc | apply Kd.R_drewN | apply Kd.R_drew)); exact HO_304000.out) hb); have n1_ := Aside0.mk (Kd.R_below (by (with_reducible repeat (first | apply Kd.R_alloc | apply Kd.R_drewN | apply Kd.R_drew)); exact HO_310000.out) hb); have n2_ := Aside0.mk (Kd.R_below (by (with_reducible repeat (first | apply Kd.R_alloc | apply Kd.R_drewN | apply Kd.R_drew)); exact HO_320000.out) hb); have n3_ := Aside0.mk (Kd.R_below (by (with_reducible repeat (first | apply Kd.R_alloc | apply Kd.R_drewN | apply Kd.R_drew)); exact HO_348000.out) hb); have n4_ := Aside0.mk (blk_below (g := gb287) (o := .cells #[.slice A0_0 l0_0.length c0_0, .int .i64 a0_1, .int .i64 a0_2] 24 (0, 0)) (by (with_reducible repeat (first | refine blk_drewN ?_ _ | refine blk_drew ?_ | refine blk_alloc ?_ _)); exact BK287.out) hb); have n5_ := Aside0.mk (blk_below (g := gb303) (o := .cells #[.slice Ao20 t294.length co20, .int .i64 t297, .int .i64 t298, .string t299, .string t300, .int .i64 t301] 41 (0, 0)) (by (with_reducible repeat (first | refine blk_drewN ?_ _ | refine blk_drew ?_ | refine blk_alloc ?_ _)); exact BK303.out) hb); have n6_ := Aside0.mk (blk_below (g := gb309) (o := .cells #[.slice Ao26 t328.length co26, .int .i64 t307, .int .i64 t308] 27 (0, 0)) (by (with_reducible repeat (first | refine blk_drewN ?_ _ | refine blk_drew ?_ | refine blk_alloc ?_ _)); exact BK309.out) hb); have n7_ := Aside0.mk (blk_below (g := gb319) (o := .cells #[.slice Ao32 t331.length co32, .int .i64 t313, .int .i64 t314, .string t315, .string t316, .int .i64 t317] 41 (0, 0)) (by (with_reducible repeat (first | refine blk_drewN ?_ _ | refine blk_drew ?_ | refine blk_alloc ?_ _)); exact BK319.out) hb); have n8_ := Aside0.mk (blk_below (g := gb347) (o := .cells #[.slice Ao118 t338.length co118, .int .i64 t341, .int .i64 t342, .string t343, .string t344, .int .i64 t345] 41 (0, 0)) (by (with_reducible repeat (first | refine blk_drewN ?_ _ | refine blk_drew ?_ | refine blk_alloc ?_ _)); exact BK347.out) hb); have n9_ := Aside0.mk (below_step (by repeat (first | (with_reducible first | exact HB.out | apply below_alloc | apply pw_below_drewN | apply below_drew1 | refine below_set ?_ GE287.out | refine below_set ?_ GE303.out | refine below_set ?_ GE309.out | refine below_set ?_ GE319.out | refine below_set ?_ GE347.out) | exact HB.out)) hb); clear HO_304000; clear HO_310000; clear HO_320000; clear HO_348000; clear BK287; clear BK303; clear BK309; clear BK319; clear BK347; clear HB; have HO_304000 := n0_; have HO_310000 := n1_; have HO_320000 := n2_; have HO_348000 := n3_; have BK287 := n4_; have BK303 := n5_; have BK309 := n6_; have BK319 := n7_; have BK347 := n8_; have HB := n9_; clear n0_ n1_ n2_ n3_ n4_ n5_ n6_ n7_ n8_ n9_; (try clear hb); (try clear hb2); (try clear hk); (try clear hi)))
                                go_ret
                                exact ⟨by first | rfl | (simp [errW_none, errW_some] <;> rfl) | (simp [*, errW_none, errW_some] <;> rfl), by repeat (first | (with_reducible first | exact HB.out | apply below_alloc | apply pw_below_drewN | apply below_drew1 | refine below_set ?_ GE287.out | refine below_set ?_ GE303.out | refine below_set ?_ GE309.out | refine below_set ?_ GE319.out | refine below_set ?_ GE347.out) | exact HB.out)⟩
                              · rw [if_neg c155] at H
                                have c155b0 : (t349 == t330) = false := beq_eq_false_iff_ne.mpr c155
                                have c155b1 : (t349 != t330) = true := bne_iff_ne.mpr c155
                                obtain rfl := Option.some.inj H
                                have hnb162 := NB319_287.out
                                have hnc162 := NB287_319.out
                                have hnb163 := NB319_303.out
                                have hnc163 := NB303_319.out
                                have hnb164 := NB319_309.out
                                have hnc164 := NB309_319.out
                                have hnb165 := NB319_347.out
                                have hnc165 := NB347_319.out
                                have hcz166_0 : wc.cell? ⟨gb319, 0, none⟩ = some (.slice Ao32 t331.length co32) := (blk_cell BK319.out 0).trans rfl
                                have hcz166_1 : wc.cell? ⟨gb319, 1, none⟩ = some (.int .i64 t313) := (blk_cell BK319.out 1).trans rfl
                                have hcz166_2 : wc.cell? ⟨gb319, 2, none⟩ = some (.int .i64 t314) := (blk_cell BK319.out 2).trans rfl
                                have hcz166_3 : wc.cell? ⟨gb319, 3, none⟩ = some (.string t315) := (blk_cell BK319.out 3).trans rfl
                                have hcz166_4 : wc.cell? ⟨gb319, 4, none⟩ = some (.string t316) := (blk_cell BK319.out 4).trans rfl
                                have hcz166_5 : wc.cell? ⟨gb319, 5, none⟩ = some (.int .i64 t317) := (blk_cell BK319.out 5).trans rfl
                                have hfz166_0 := blk_frozen BK319.out 0
                                have hfz166_1 := blk_frozen BK319.out 1
                                have hfz166_2 := blk_frozen BK319.out 2
                                have hfz166_3 := blk_frozen BK319.out 3
                                have hfz166_4 := blk_frozen BK319.out 4
                                have hfz166_5 := blk_frozen BK319.out 5
                                go_wp2_with (first | ((with_reducible refine gate_callee (f := 31) rfl ?_); refine goesL_ (some 90) rfl rfl Try.func31 (by kernel_rfl) rfl #[.agg #[.slice Ao32 t331.length co32, .int .i64 t313, .int .i64 t314, .string t315, .string t316, .int .i64 t317], .int .i64 1] rfl (by (try simp only [List.map_toArray, List.map_cons, List.map_nil]); first | done | rfl | (simp only [List.length_drop, List.length_take]; rfl)) ?_; (with_reducible refine (laws_heldConsole.calls kj102 _ _ t331 t313 t314 t315 t316 t317 1 t349 _ ?side1 ?side2 A147.out).mono ?_); (case side1 => repeat (first | exact (Kd.R_reads' HO_320000.out).2.2 | (with_reducible refine Kd.C_alloc ?_ _) | (with_reducible refine Kd.C_drewN ?_ _) | (with_reducible refine Kd.C_drew ?_))); (case side2 => exact (Kd.R_reads' HO_320000.out).2.1); rintro e w167 ⟨rfl, hb⟩; refine ⟨_, rfl, ?_⟩; have n0_ := Aside0.mk (Kd.R_below (by (with_reducible repeat (first | apply Kd.R_alloc | apply Kd.R_drewN | apply Kd.R_drew)); exact HO_304000.out) hb); have n1_ := Aside0.mk (Kd.R_below (by (with_reducible repeat (first | apply Kd.R_alloc | apply Kd.R_drewN | apply Kd.R_drew)); exact HO_310000.out) hb); have n2_ := Aside0.mk (Kd.R_below (by (with_reducible repeat (first | apply Kd.R_alloc | apply Kd.R_drewN | apply Kd.R_drew)); exact HO_320000.out) hb); have n3_ := Aside0.mk (Kd.R_below (by (with_reducible repeat (first | apply Kd.R_alloc | apply Kd.R_drewN | apply Kd.R_drew)); exact HO_348000.out) hb); have n4_ := Aside0.mk (blk_below (g := gb287) (o := .cells #[.slice A0_0 l0_0.length c0_0, .int .i64 a0_1, .int .i64 a0_2] 24 (0, 0)) (by (with_reducible repeat (first | refine blk_drewN ?_ _ | refine blk_drew ?_ | refine blk_alloc ?_ _)); exact BK287.out) hb); have n5_ := Aside0.mk (blk_below (g := gb303) (o := .cells #[.slice Ao20 t294.length co20, .int .i64 t297, .int .i64 t298, .string t299, .string t300, .int .i64 t301] 41 (0, 0)) (by (with_reducible repeat (first | refine blk_drewN ?_ _ | refine blk_drew ?_ | refine blk_alloc ?_ _)); exact BK303.out) hb); have n6_ := Aside0.mk (blk_below (g := gb309) (o := .cells #[.slice Ao26 t328.length co26, .int .i64 t307, .int .i64 t308] 27 (0, 0)) (by (with_reducible repeat (first | refine blk_drewN ?_ _ | refine blk_drew ?_ | refine blk_alloc ?_ _)); exact BK309.out) hb); have n7_ := Aside0.mk (blk_below (g := gb319) (o := .cells #[.slice Ao32 t331.length co32, .int .i64 t313, .int .i64 t314, .string t315, .string t316, .int .i64 t317] 41 (0, 0)) (by (with_reducible repeat (first | refine blk_drewN ?_ _ | refine blk_drew ?_ | refine blk_alloc ?_ _)); exact BK319.out) hb); have n8_ := Aside0.mk (blk_below (g := gb347) (o := .cells #[.slice Ao118 t338.length co118, .int .i64 t341, .int .i64 t342, .string t343, .string t344, .int .i64 t345] 41 (0, 0)) (by (with_reducible repeat (first | refine blk_drewN ?_ _ | refine blk_drew ?_ | refine blk_alloc ?_ _)); exact BK347.out) hb); have n9_ := Aside0.mk (below_step (by repeat (first | (with_reducible first | exact HB.out | apply below_alloc | apply pw_below_drewN | apply below_drew1 | refine below_set ?_ GE287.out | refine below_set ?_ GE303.out | refine below_set ?_ GE309.out | refine below_set ?_ GE319.out | refine below_set ?_ GE347.out) | exact HB.out)) hb); clear HO_304000; clear HO_310000; clear HO_320000; clear HO_348000; clear BK287; clear BK303; clear BK309; clear BK319; clear BK347; clear HB; have HO_304000 := n0_; have HO_310000 := n1_; have HO_320000 := n2_; have HO_348000 := n3_; have BK287 := n4_; have BK303 := n5_; have BK309 := n6_; have BK319 := n7_; have BK347 := n8_; have HB := n9_; clear n0_ n1_ n2_ n3_ n4_ n5_ n6_ n7_ n8_ n9_; (try clear hb); (try clear hb2); (try clear hk); (try clear hi)))
                                go_ret
                                exact ⟨by first | rfl | (simp [errW_none, errW_some] <;> rfl) | (simp [*, errW_none, errW_some] <;> rfl), by repeat (first | (with_reducible first | exact HB.out | apply below_alloc | apply pw_below_drewN | apply below_drew1 | refine below_set ?_ GE287.out | refine below_set ?_ GE303.out | refine below_set ?_ GE309.out | refine below_set ?_ GE319.out | refine below_set ?_ GE347.out) | exact HB.out)⟩
                    · rw [if_neg c100] at H
                      have c100b0 : (t332 == t330) = false := beq_eq_false_iff_ne.mpr c100
                      have c100b1 : (t332 != t330) = true := bne_iff_ne.mpr c100
                      obtain rfl := Option.some.inj H
                      have hnb168 := NB319_287.out
                      have hnc168 := NB287_319.out
                      have hnb169 := NB319_303.out
                      have hnc169 := NB303_319.out
                      have hnb170 := NB319_309.out
                      have hnc170 := NB309_319.out
                      have hcz171_0 : wc.cell? ⟨gb319, 0, none⟩ = some (.slice Ao32 t310.length co32) := (blk_cell BK319.out 0).trans rfl
                      have hcz171_1 : wc.cell? ⟨gb319, 1, none⟩ = some (.int .i64 t313) := (blk_cell BK319.out 1).trans rfl
                      have hcz171_2 : wc.cell? ⟨gb319, 2, none⟩ = some (.int .i64 t314) := (blk_cell BK319.out 2).trans rfl
                      have hcz171_3 : wc.cell? ⟨gb319, 3, none⟩ = some (.string t315) := (blk_cell BK319.out 3).trans rfl
                      have hcz171_4 : wc.cell? ⟨gb319, 4, none⟩ = some (.string t316) := (blk_cell BK319.out 4).trans rfl
                      have hcz171_5 : wc.cell? ⟨gb319, 5, none⟩ = some (.int .i64 t317) := (blk_cell BK319.out 5).trans rfl
                      have hfz171_0 := blk_frozen BK319.out 0
                      have hfz171_1 := blk_frozen BK319.out 1
                      have hfz171_2 := blk_frozen BK319.out 2
                      have hfz171_3 := blk_frozen BK319.out 3
                      have hfz171_4 := blk_frozen BK319.out 4
                      have hfz171_5 := blk_frozen BK319.out 5
                      go_wp2_with (first | ((with_reducible refine gate_callee (f := 30) rfl ?_); refine goesL_ (some 64) rfl rfl Try.func30 (by kernel_rfl) rfl #[.agg #[.slice Ao32 t310.length co32, .int .i64 t313, .int .i64 t314, .string t315, .string t316, .int .i64 t317], .int .i64 1] rfl (by (try simp only [List.map_toArray, List.map_cons, List.map_nil]); first | done | rfl | (simp only [List.length_drop, List.length_take]; rfl)) ?_; (with_reducible refine (laws_markConsole.calls kj59 (fun k_ => some k_ = (.slice Ao32 t310.length co32 : Value).ownBlock) (.slice Ao32 t310.length co32) t310 t313 t314 t315 t316 t317 1 t330 t331 w _ ?side1 ?side2 A90.out).mono ?_); (case side1 => repeat (first | (with_reducible first | exact HB.out | apply below_alloc | apply pw_below_drewN | apply below_drew1 | refine below_set ?_ GE287.out | refine below_set ?_ GE303.out | refine below_set ?_ GE309.out | refine below_set ?_ GE319.out) | exact HB.out)); (case side2 => exact Kd.R_tight rfl HO_320000.out); rintro e w172 ⟨rfl, hy0, hb, hkp⟩; refine ⟨_, rfl, ?_⟩; have n0_ := Aside0.mk (Kd.R_mono (ok' := fun k_ => some k_ ≠ (.slice Ao26 t328.length co26 : Value).ownBlock ∧ some k_ ≠ (.slice Ao32 t310.length co32 : Value).ownBlock) (Kd.R_keptB (HO_304000.out) hkp (fun k_ hk_ hs_ => (hk_.2) hs_)) (fun k_ hk_ => ⟨hk_.1.1, hk_.1.2⟩)); have n1_ := Aside0.mk (Kd.R_mono (ok' := fun k_ => some k_ ≠ (.slice Ao20 t294.length co20 : Value).ownBlock ∧ some k_ ≠ (.slice Ao32 t310.length co32 : Value).ownBlock) (Kd.R_keptB (HO_310000.out) hkp (fun k_ hk_ hs_ => (hk_.2) hs_)) (fun k_ hk_ => ⟨hk_.1.1, hk_.1.2⟩)); have n2_ := Aside0.mk (Kd.R_reok rfl hy0 (fun k_ e_ => HO_320000.out.1 k_ e_)); have n3_ := Aside0.mk (blk_kept (by (with_reducible repeat (first | refine blk_drewN ?_ _ | refine blk_drew ?_ | refine blk_alloc ?_ _)); exact BK287.out) hkp (fun hs_ => (fun e_ => (Kd.R_ne HO_320000.out BK287.out (by decide)) e_) hs_)); have n4_ := Aside0.mk (blk_kept (by (with_reducible repeat (first | refine blk_drewN ?_ _ | refine blk_drew ?_ | refine blk_alloc ?_ _)); exact BK303.out) hkp (fun hs_ => (fun e_ => (Kd.R_ne HO_320000.out BK303.out (by decide)) e_) hs_)); have n5_ := Aside0.mk (blk_kept (by (with_reducible repeat (first | refine blk_drewN ?_ _ | refine blk_drew ?_ | refine blk_alloc ?_ _)); exact BK309.out) hkp (fun hs_ => (fun e_ => (Kd.R_ne HO_320000.out BK309.out (by decide)) e_) hs_)); have n6_ := Aside0.mk (blk_kept (by (with_reducible repeat (first | refine blk_drewN ?_ _ | refine blk_drew ?_ | refine blk_alloc ?_ _)); exact BK319.out) hkp (fun hs_ => (fun e_ => (Kd.R_ne HO_320000.out BK319.out (by decide)) e_) hs_)); have n7_ := Aside0.mk (hb); clear HO_304000; clear HO_310000; clear HO_320000; clear BK287; clear BK303; clear BK309; clear BK319; clear HB; have HO_304000 := n0_; have HO_310000 := n1_; have HO_320000 := n2_; have BK287 := n3_; have BK303 := n4_; have BK309 := n5_; have BK319 := n6_; have HB := n7_; clear n0_ n1_ n2_ n3_ n4_ n5_ n6_ n7_; (try clear hb); (try clear hkp); (try clear hy0); have hcz173_0 : w172.cell? ⟨gb319, 0, none⟩ = some (.slice Ao32 t310.length co32) := (blk_cell BK319.out 0).trans rfl; have hcz173_1 : w172.cell? ⟨gb319, 1, none⟩ = some (.int .i64 t313) := (blk_cell BK319.out 1).trans rfl; have hcz173_2 : w172.cell? ⟨gb319, 2, none⟩ = some (.int .i64 t314) := (blk_cell BK319.out 2).trans rfl; have hcz173_3 : w172.cell? ⟨gb319, 3, none⟩ = some (.string t315) := (blk_cell BK319.out 3).trans rfl; have hcz173_4 : w172.cell? ⟨gb319, 4, none⟩ = some (.string t316) := (blk_cell BK319.out 4).trans rfl; have hcz173_5 : w172.cell? ⟨gb319, 5, none⟩ = some (.int .i64 t317) := (blk_cell BK319.out 5).trans rfl; have hfz173_0 := blk_frozen BK319.out 0; have hfz173_1 := blk_frozen BK319.out 1; have hfz173_2 := blk_frozen BK319.out 2; have hfz173_3 := blk_frozen BK319.out 3; have hfz173_4 := blk_frozen BK319.out 4; have hfz173_5 := blk_frozen BK319.out 5) | ((with_reducible refine gate_callee (f := 31) rfl ?_); refine goesL_ (some 67) rfl rfl Try.func31 (by kernel_rfl) rfl #[.agg #[.slice Ao32 t331.length co32, .int .i64 t313, .int .i64 t314, .string t315, .string t316, .int .i64 t317], .int .i64 1] rfl (by (try simp only [List.map_toArray, List.map_cons, List.map_nil]); first | done | (rw [show t331.length = t310.length from (Kd.R_reads' HO_320000.out).1.symm] <;> rfl) | rfl | (simp only [List.length_drop, List.length_take]; rfl)) ?_; (with_reducible refine (laws_heldConsole.calls kj59 _ _ t331 t313 t314 t315 t316 t317 1 t332 _ ?side1 ?side2 A91.out).mono ?_); (case side1 => repeat (first | exact (Kd.R_reads' HO_320000.out).2.2 | (with_reducible refine Kd.C_alloc ?_ _) | (with_reducible refine Kd.C_drewN ?_ _) | (with_reducible refine Kd.C_drew ?_))); (case side2 => rw [show t331.length = t310.length from (Kd.R_reads' HO_320000.out).1.symm]; exact (Kd.R_reads' HO_320000.out).2.1); rintro e w174 ⟨rfl, hb⟩; refine ⟨_, rfl, ?_⟩; have n0_ := Aside0.mk (Kd.R_below (by (with_reducible repeat (first | apply Kd.R_alloc | apply Kd.R_drewN | apply Kd.R_drew)); exact HO_304000.out) hb); have n1_ := Aside0.mk (Kd.R_below (by (with_reducible repeat (first | apply Kd.R_alloc | apply Kd.R_drewN | apply Kd.R_drew)); exact HO_310000.out) hb); have n2_ := Aside0.mk (Kd.R_below (by (with_reducible repeat (first | apply Kd.R_alloc | apply Kd.R_drewN | apply Kd.R_drew)); exact HO_320000.out) hb); have n3_ := Aside0.mk (blk_below (g := gb287) (o := .cells #[.slice A0_0 l0_0.length c0_0, .int .i64 a0_1, .int .i64 a0_2] 24 (0, 0)) (by (with_reducible repeat (first | refine blk_drewN ?_ _ | refine blk_drew ?_ | refine blk_alloc ?_ _)); exact BK287.out) hb); have n4_ := Aside0.mk (blk_below (g := gb303) (o := .cells #[.slice Ao20 t294.length co20, .int .i64 t297, .int .i64 t298, .string t299, .string t300, .int .i64 t301] 41 (0, 0)) (by (with_reducible repeat (first | refine blk_drewN ?_ _ | refine blk_drew ?_ | refine blk_alloc ?_ _)); exact BK303.out) hb); have n5_ := Aside0.mk (blk_below (g := gb309) (o := .cells #[.slice Ao26 t328.length co26, .int .i64 t307, .int .i64 t308] 27 (0, 0)) (by (with_reducible repeat (first | refine blk_drewN ?_ _ | refine blk_drew ?_ | refine blk_alloc ?_ _)); exact BK309.out) hb); have n6_ := Aside0.mk (blk_below (g := gb319) (o := .cells #[.slice Ao32 t310.length co32, .int .i64 t313, .int .i64 t314, .string t315, .string t316, .int .i64 t317] 41 (0, 0)) (by (with_reducible repeat (first | refine blk_drewN ?_ _ | refine blk_drew ?_ | refine blk_alloc ?_ _)); exact BK319.out) hb); have n7_ := Aside0.mk (below_step (by repeat (first | (with_reducible first | exact HB.out | apply below_alloc | apply pw_below_drewN | apply below_drew1 | refine below_set ?_ GE287.out | refine below_set ?_ GE303.out | refine below_set ?_ GE309.out | refine below_set ?_ GE319.out) | exact HB.out)) hb); clear HO_304000; clear HO_310000; clear HO_320000; clear BK287; clear BK303; clear BK309; clear BK319; clear HB; have HO_304000 := n0_; have HO_310000 := n1_; have HO_320000 := n2_; have BK287 := n3_; have BK303 := n4_; have BK309 := n5_; have BK319 := n6_; have HB := n7_; clear n0_ n1_ n2_ n3_ n4_ n5_ n6_ n7_; (try clear hb); (try clear hb2); (try clear hk); (try clear hi)))
                      go_ret
                      exact ⟨by first | rfl | (simp [errW_none, errW_some] <;> rfl) | (simp [*, errW_none, errW_some] <;> rfl), by repeat (first | (with_reducible first | exact HB.out | apply below_alloc | apply pw_below_drewN | apply below_drew1 | refine below_set ?_ GE287.out | refine below_set ?_ GE303.out | refine below_set ?_ GE309.out | refine below_set ?_ GE319.out) | exact HB.out)⟩
          · replace c58 := Bool.eq_false_iff.mpr c58
            subst c58
            have H1 : (some false) = some r := by rw [if_neg (show ¬ (false = true) by decide)] at H; exact H
            clear H
            have H := H1
            clear H1
            obtain rfl := Option.some.inj H
            try go_wp2
            have n0_ := Aside0.mk (Kd.R_drew HO_304000.out)
            have n1_ := Aside0.mk (Kd.R_drew HO_310000.out)
            have n2_ := Aside0.mk (Kd.R_drew HO_320000.out)
            have n3_ := Aside0.mk (blk_drew BK287.out)
            have n4_ := Aside0.mk (blk_drew BK303.out)
            have n5_ := Aside0.mk (blk_drew BK309.out)
            have n6_ := Aside0.mk (blk_drew BK319.out)
            have n7_ := Aside0.mk (below_drew1 HB.out)
            clear HO_304000
            clear HO_310000
            clear HO_320000
            clear BK287
            clear BK303
            clear BK309
            clear BK319
            clear HB
            have HO_304000 := n0_
            have HO_310000 := n1_
            have HO_320000 := n2_
            have BK287 := n3_
            have BK303 := n4_
            have BK309 := n5_
            have BK319 := n6_
            have HB := n7_
            clear n0_ n1_ n2_ n3_ n4_ n5_ n6_ n7_
            refine start_ (n := 5) (S := fun w' => w'.cell? ⟨gb309, 0, none⟩ = some (.slice Ao26 t304.length co26) ∧ w'.cell? ⟨gb309, 1, none⟩ = some (.int .i64 t307) ∧ w'.cell? ⟨gb309, 2, none⟩ = some (.int .i64 t308) ∧ w'.cell? ⟨gb287, 0, none⟩ = some (.slice A0_0 l0_0.length c0_0) ∧ w'.cell? ⟨gb287, 1, none⟩ = some (.int .i64 a0_1) ∧ w'.cell? ⟨gb287, 2, none⟩ = some (.int .i64 a0_2)) (ds := []) #[false, false, false, false, false] (by kernel_rfl) rfl rfl ⟨(blk_cell BK309.out 0).trans rfl, (blk_cell BK309.out 1).trans rfl, (blk_cell BK309.out 2).trans rfl, (blk_cell BK287.out 0).trans rfl, (blk_cell BK287.out 1).trans rfl, (blk_cell BK287.out 2).trans rfl⟩ (fun hHeld => ?_)
            generalize wc.drew = w175 at HO_304000 HO_310000 HO_320000 BK287 BK303 BK309 BK319 HB hHeld ⊢
            refine take_ (i := 0) (N := some 41) (v := ?_) (a' := ?_) #[true, false, false, false, false] rfl rfl (by kernel_rfl) (fun _ _ _ h => h) (Or.inl ⟨by rfl, ?_⟩) hHeld ?_ ?_
            rotate_left
            · rintro w' ⟨s0, s1, s2, s3, s4, s5⟩
              go_simp
              with_reducible rfl
            rotate_left
            · simp only [Act.put, List.setIfInBounds_toArray, List.set_cons_zero, List.set_cons_succ, i64_w, i32_w]
              rfl
            refine take_ (i := 1) (N := some 42) (v := ?_) (a' := ?_) #[true, true, false, false, false] rfl rfl (by kernel_rfl) (fun _ _ _ h => h) (Or.inl ⟨by rfl, ?_⟩) hHeld ?_ ?_
            rotate_left
            · rintro w' ⟨s0, s1, s2, s3, s4, s5⟩
              go_simp
              with_reducible rfl
            rotate_left
            · simp only [Act.put, List.setIfInBounds_toArray, List.set_cons_zero, List.set_cons_succ, i64_w, i32_w]
              rfl
            refine one_ (i := 2) (N := some 43) #[true, true, true, false, false] rfl rfl (by kernel_rfl) (by decide) (fun K hK => ?_)
            refine goes_ Try.func17 (by kernel_rfl) rfl #[.agg #[.slice A0_0 l0_0.length c0_0, .int .i64 a0_1, .int .i64 a0_2]] (by rfl) rfl rfl (by (try simp only [List.map_toArray, List.map_cons, List.map_nil]); first | done | rfl | (simp only [List.length_drop, List.length_take]; rfl)) ?_
            with_reducible refine (laws_toGallery.calls kj10 _ _ l0_0 a0_1 a0_2 t321 t324 t325 _ ?side1 ?side2 A56.out).mono ?_
            (case side1 => repeat (first | exact (Kd.C_below HR0_0.out HB.out) | (with_reducible refine Kd.C_alloc ?_ _) | (with_reducible refine Kd.C_drewN ?_ _) | (with_reducible refine Kd.C_drew ?_)))
            (case side2 => exact HC0_0.out)
            rintro e w176 ⟨v322, rfl, ho0, hb⟩
            refine ⟨_, rfl, ?_⟩
            have n0_ := Aside0.mk (Kd.R_elder' (by (with_reducible repeat (first | apply Kd.R_alloc | apply Kd.R_drewN | apply Kd.R_drew)); exact HO_304000.out) (Kd.R_base ho0) hb)
            have n1_ := Aside0.mk (Kd.R_elder' (by (with_reducible repeat (first | apply Kd.R_alloc | apply Kd.R_drewN | apply Kd.R_drew)); exact HO_310000.out) (Kd.R_base ho0) hb)
            have n2_ := Aside0.mk (Kd.R_elder' (by (with_reducible repeat (first | apply Kd.R_alloc | apply Kd.R_drewN | apply Kd.R_drew)); exact HO_320000.out) (Kd.R_base ho0) hb)
            have n3_ := Aside0.mk (Kd.R_lower (Kd.R_new' (Kd.R_new' (Kd.R_new' ho0 (Kd.R_lt (by (with_reducible repeat (first | apply Kd.R_alloc | apply Kd.R_drewN | apply Kd.R_drew)); exact HO_304000.out))) (Kd.R_lt (by (with_reducible repeat (first | apply Kd.R_alloc | apply Kd.R_drewN | apply Kd.R_drew)); exact HO_310000.out))) (Kd.R_lt (by (with_reducible repeat (first | apply Kd.R_alloc | apply Kd.R_drewN | apply Kd.R_drew)); exact HO_320000.out))) (below_size (by repeat (first | (with_reducible first | exact HB.out | apply below_alloc | apply pw_below_drewN | apply below_drew1 | refine below_set ?_ GE287.out | refine below_set ?_ GE303.out | refine below_set ?_ GE309.out | refine below_set ?_ GE319.out) | exact HB.out))))
            have n4_ := Aside0.mk (blk_below (g := gb287) (o := .cells #[.slice A0_0 l0_0.length c0_0, .int .i64 a0_1, .int .i64 a0_2] 24 (0, 0)) (by (with_reducible repeat (first | refine blk_drewN ?_ _ | refine blk_drew ?_ | refine blk_alloc ?_ _)); exact BK287.out) hb)
            have n5_ := Aside0.mk (blk_below (g := gb303) (o := .cells #[.slice Ao20 t294.length co20, .int .i64 t297, .int .i64 t298, .string t299, .string t300, .int .i64 t301] 41 (0, 0)) (by (with_reducible repeat (first | refine blk_drewN ?_ _ | refine blk_drew ?_ | refine blk_alloc ?_ _)); exact BK303.out) hb)
            have n6_ := Aside0.mk (blk_below (g := gb309) (o := .cells #[.slice Ao26 t304.length co26, .int .i64 t307, .int .i64 t308] 27 (0, 0)) (by (with_reducible repeat (first | refine blk_drewN ?_ _ | refine blk_drew ?_ | refine blk_alloc ?_ _)); exact BK309.out) hb)
            have n7_ := Aside0.mk (blk_below (g := gb319) (o := .cells #[.slice Ao32 t310.length co32, .int .i64 t313, .int .i64 t314, .string t315, .string t316, .int .i64 t317] 41 (0, 0)) (by (with_reducible repeat (first | refine blk_drewN ?_ _ | refine blk_drew ?_ | refine blk_alloc ?_ _)); exact BK319.out) hb)
            have n8_ := Aside0.mk (below_step (by repeat (first | (with_reducible first | exact HB.out | apply below_alloc | apply pw_below_drewN | apply below_drew1 | refine below_set ?_ GE287.out | refine below_set ?_ GE303.out | refine below_set ?_ GE309.out | refine below_set ?_ GE319.out) | exact HB.out)) hb)
            clear HO_304000
            clear HO_310000
            clear HO_320000
            clear BK287
            clear BK303
            clear BK309
            clear BK319
            clear HB
            have HO_304000 := n0_
            have HO_310000 := n1_
            have HO_320000 := n2_
            have HO323 := n3_
            have BK287 := n4_
            have BK303 := n5_
            have BK309 := n6_
            have BK319 := n7_
            have HB := n8_
            clear n0_ n1_ n2_ n3_ n4_ n5_ n6_ n7_ n8_
            (try clear hb)
            (try clear hb2)
            (try clear hk)
            (try clear hi)
            (try clear ho0)
            obtain ⟨Ao177, co177, eo177⟩ := Kd.R_slice HO323.out
            (first | subst eo177 | (injection eo177 with f1_ f2_ f3_; have f4_ := f1_.symm; have f5_ := f3_.symm; clear f1_ f2_ f3_; subst f4_; subst f5_))
            refine hK.out _ _ ⟨(blk_cell BK309.out 0).trans rfl, (blk_cell BK309.out 1).trans rfl, (blk_cell BK309.out 2).trans rfl, (blk_cell BK287.out 0).trans rfl, (blk_cell BK287.out 1).trans rfl, (blk_cell BK287.out 2).trans rfl⟩ (fun hHeld => ?_)
            clear hK K
            refine norm_ (a' := ?_) ?_ ?_
            rotate_left
            · show Act.put _ (some 43) _ = _
              simp only [Act.put, List.setIfInBounds_toArray, List.set_cons_zero, List.set_cons_succ, i64_w, i32_w]
              rfl
            refine one_ (i := 3) (N := some 44) #[true, true, true, true, false] rfl rfl (by kernel_rfl) (by decide) (fun K hK => ?_)
            refine goes_ Try.func19 (by kernel_rfl) rfl #[.agg #[.slice Ao26 t304.length co26, .int .i64 t307, .int .i64 t308], .agg #[.slice Ao177 t321.length co177, .int .i64 t324, .int .i64 t325]] (by rfl) rfl rfl (by (try simp only [List.map_toArray, List.map_cons, List.map_nil]); first | done | rfl | (simp only [List.length_drop, List.length_take]; rfl)) ?_
            with_reducible refine (laws_eqGallery.calls kj10 _ _ t304 t307 t308 _ _ t321 t324 t325 false _ ?side1 ?side2 ?side3 ?side4 A57.out).mono ?_
            (case side1 => repeat (first | exact (Kd.R_reads' HO_310000.out).2.2 | (with_reducible refine Kd.C_alloc ?_ _) | (with_reducible refine Kd.C_drewN ?_ _) | (with_reducible refine Kd.C_drew ?_)))
            (case side2 => exact (Kd.R_reads' HO_310000.out).2.1)
            (case side3 => repeat (first | exact (Kd.R_reads' HO323.out).2.2 | (with_reducible refine Kd.C_alloc ?_ _) | (with_reducible refine Kd.C_drewN ?_ _) | (with_reducible refine Kd.C_drew ?_)))
            (case side4 => exact (Kd.R_reads' HO323.out).2.1)
            rintro e w178 ⟨rfl, hb⟩
            refine ⟨_, rfl, ?_⟩
            have n0_ := Aside0.mk (Kd.R_below (by (with_reducible repeat (first | apply Kd.R_alloc | apply Kd.R_drewN | apply Kd.R_drew)); exact HO_304000.out) hb)
            have n1_ := Aside0.mk (Kd.R_below (by (with_reducible repeat (first | apply Kd.R_alloc | apply Kd.R_drewN | apply Kd.R_drew)); exact HO_310000.out) hb)
            have n2_ := Aside0.mk (Kd.R_below (by (with_reducible repeat (first | apply Kd.R_alloc | apply Kd.R_drewN | apply Kd.R_drew)); exact HO_320000.out) hb)
            have n3_ := Aside0.mk (Kd.R_below (by (with_reducible repeat (first | apply Kd.R_alloc | apply Kd.R_drewN | apply Kd.R_drew)); exact HO323.out) hb)
            have n4_ := Aside0.mk (blk_below (g := gb287) (o := .cells #[.slice A0_0 l0_0.length c0_0, .int .i64 a0_1, .int .i64 a0_2] 24 (0, 0)) (by (with_reducible repeat (first | refine blk_drewN ?_ _ | refine blk_drew ?_ | refine blk_alloc ?_ _)); exact BK287.out) hb)
            have n5_ := Aside0.mk (blk_below (g := gb303) (o := .cells #[.slice Ao20 t294.length co20, .int .i64 t297, .int .i64 t298, .string t299, .string t300, .int .i64 t301] 41 (0, 0)) (by (with_reducible repeat (first | refine blk_drewN ?_ _ | refine blk_drew ?_ | refine blk_alloc ?_ _)); exact BK303.out) hb)
            have n6_ := Aside0.mk (blk_below (g := gb309) (o := .cells #[.slice Ao26 t304.length co26, .int .i64 t307, .int .i64 t308] 27 (0, 0)) (by (with_reducible repeat (first | refine blk_drewN ?_ _ | refine blk_drew ?_ | refine blk_alloc ?_ _)); exact BK309.out) hb)
            have n7_ := Aside0.mk (blk_below (g := gb319) (o := .cells #[.slice Ao32 t310.length co32, .int .i64 t313, .int .i64 t314, .string t315, .string t316, .int .i64 t317] 41 (0, 0)) (by (with_reducible repeat (first | refine blk_drewN ?_ _ | refine blk_drew ?_ | refine blk_alloc ?_ _)); exact BK319.out) hb)
            have n8_ := Aside0.mk (below_step (by repeat (first | (with_reducible first | exact HB.out | apply below_alloc | apply pw_below_drewN | apply below_drew1 | refine below_set ?_ GE287.out | refine below_set ?_ GE303.out | refine below_set ?_ GE309.out | refine below_set ?_ GE319.out) | exact HB.out)) hb)
            clear HO_304000
            clear HO_310000
            clear HO_320000
            clear HO323
            clear BK287
            clear BK303
            clear BK309
            clear BK319
            clear HB
            have HO_304000 := n0_
            have HO_310000 := n1_
            have HO_320000 := n2_
            have HO323 := n3_
            have BK287 := n4_
            have BK303 := n5_
            have BK309 := n6_
            have BK319 := n7_
            have HB := n8_
            clear n0_ n1_ n2_ n3_ n4_ n5_ n6_ n7_ n8_
            (try clear hb)
            (try clear hb2)
            (try clear hk)
            (try clear hi)
            refine hK.out _ _ ⟨(blk_cell BK309.out 0).trans rfl, (blk_cell BK309.out 1).trans rfl, (blk_cell BK309.out 2).trans rfl, (blk_cell BK287.out 0).trans rfl, (blk_cell BK287.out 1).trans rfl, (blk_cell BK287.out 2).trans rfl⟩ (fun hHeld => ?_)
            clear hK K
            refine norm_ (a' := ?_) ?_ ?_
            rotate_left
            · show Act.put _ (some 44) _ = _
              simp only [Act.put, List.setIfInBounds_toArray, List.set_cons_zero, List.set_cons_succ, i64_w, i32_w]
              rfl
            refine pure_ (i := 4) (N := some 45) (v := ?_) (a' := ?_) #[true, true, true, true, true] rfl rfl (by kernel_rfl) (fun _ _ _ h => h) (Or.inl ⟨by rfl, ?_⟩) ?_ ?_
            rotate_left
            · intro w'
              go_simp
              with_reducible rfl
            rotate_left
            · simp only [Act.put, List.setIfInBounds_toArray, List.set_cons_zero, List.set_cons_succ, i64_w, i32_w]
              rfl
            refine done_ (by kernel_rfl) ?_
            try go_wp2
            go_ret
            exact ⟨by first | rfl | (simp [errW_none, errW_some] <;> rfl) | (simp [*, errW_none, errW_some] <;> rfl), by repeat (first | (with_reducible first | exact HB.out | apply below_alloc | apply pw_below_drewN | apply below_drew1 | refine below_set ?_ GE287.out | refine below_set ?_ GE303.out | refine below_set ?_ GE309.out | refine below_set ?_ GE319.out) | exact HB.out)⟩

/-- THE ONE PURE STATEMENT of laws_FnExactNewConsole: yours. -/
def laws_FnExactNewConsole.Pure : Prop := ∀ (l0_0 : List Int) (a0_1 : Int) (a0_2 : Int), l0_0.length ≤ maxLen → (∀ x ∈ l0_0, (Lit.int .i64 x).wf = true) → (Lit.int .i64 a0_1).wf = true → (Lit.int .i64 a0_2).wf = true → ∃ k, laws_FnExactNewConsole.f k l0_0 a0_1 a0_2 = some true
theorem laws_FnExactNewConsole.walk (P : laws_FnExactNewConsole.Pure) (a0_0 : Option Addr) (len0_0 cap0_0 : Nat) (z0_0 : List Int) (a0_1 : Int) (a0_2 : Int) (w : World) (w0_0 : (a0_0 = none ∧ len0_0 = 0 ∧ cap0_0 = 0 ∧ z0_0 = []) ∨ ∃ x, a0_0 = some x ∧ len0_0 ≤ cap0_0 ∧ cap0_0 ≤ maxLen ∧ z0_0.length = cap0_0 ∧ (∀ i, i < z0_0.length → w.cell? (x.add i) = some (.int .i64 (z0_0.getD i 0))) ∧ ∀ n ∈ z0_0, (Lit.int .i64 n).wf = true) (w0_1 : (Lit.int .i64 a0_1).wf = true) (w0_2 : (Lit.int .i64 a0_2).wf = true) :
    Calls Try.prog 5 #[.agg #[.slice a0_0 len0_0 cap0_0, .int .i64 a0_1, .int .i64 a0_2]] w fun e w' => e = .returned (.bool true) ∧ Below w.heap.size w w' := by
  obtain ⟨l0_0, rfl, hr0_0, hm0_0, hw0_0, hc0_0⟩ := ReadsInt.ofRowC w0_0
  obtain ⟨k, h⟩ := P l0_0 a0_1 a0_2 hm0_0 hw0_0 w0_1 w0_2
  refine (laws_FnExactNewConsole.calls k _ _ l0_0 a0_1 a0_2 true w (Kd.C_of_reads (d := (0 : Int)) (h1 := fun _ => rfl) hr0_0) hc0_0 h).mono ?_
  rintro e w' ⟨rfl, hd⟩
  exact ⟨rfl, hd⟩

end Go.Proofs.Ytjaiienbbmfomaa.Px
