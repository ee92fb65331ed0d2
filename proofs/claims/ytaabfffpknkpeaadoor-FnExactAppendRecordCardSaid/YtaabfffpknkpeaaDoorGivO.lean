import Derived.Test.YtaabfffpknkpeaaDoorPx0
import Derived.Test.YtaabfffpknkpeaaDoorGivS
import Derived.Lib.LaidTab
import Derived.Lib.LaidU8
import Derived.Lib.SmallJoins
namespace Go.Proofs.YtaabfffpknkpeaaDoor.Giv
set_option linter.unusedVariables false
set_option linter.unusedSimpArgs false
open Go.RowKit Go.Proofs.YtaabfffpknkpeaaDoorW.PrintWords Go.Proofs.YtaabfffpknkpeaaDoorW.PrintLast Go.Proofs.YtaabfffpknkpeaaDoorW.PrintMore Go.Joins
/-- What a world must read as: the table of powers of ten. -/
def Wf (w : World) : Prop := Lib.TabIs Tryd.prog w "internal/strconv.uint64pow10" .u64 Lib.pow10Tab
noncomputable def tabG : Nat := (Tryd.prog.globalNamed "internal/strconv.uint64pow10").getD 0
theorem tabG_is : Tryd.prog.globalNamed "internal/strconv.uint64pow10" = some tabG := by kernel_rfl
theorem Wf.below {w w' : World} (h : Wf w) (hb : Below w.heap.size w w') : Wf w' := tab_stays tabG_is h hb (Nat.le_refl _)
theorem Wf.drewN {w : World} (h : Wf w) (n : Nat) : Wf (w.drewN n) := h.below (below_draws _ _ _)
theorem Wf.drew {w : World} (h : Wf w) : Wf w.drew := h.below (Below.refl _ _).drew
theorem Wf.alloc {w : World} (h : Wf w) (o : Obj) : Wf (w.alloc o) := h.below ((Below.refl _ _).alloc (Nat.le_refl _) o)
theorem grow_below (w : World) (n : Nat) (os : Array Obj) : Below w.heap.size w (Go.Sort.grow (w.drewN n) os) :=
  ⟨rfl, rfl, rfl, by simp [Go.Sort.grow, World.drewN], fun k hk => by simp [Go.Sort.grow, World.drewN, Array.getElem?_append, hk]⟩
def strconv_Itoa.f (a0 : Int) : Option ByteArray := if -9223372036854775808 ≤ a0 ∧ a0 ≤ 9223372036854775807 then some ⟨(Lib.itoa a0).toArray⟩ else none
theorem strconv_Itoa.calls (a0 : Int) (r : ByteArray) (w : World) (hW : Wf w) (h : strconv_Itoa.f a0 = some r) :
    Calls Tryd.prog 55 #[.int .i64 a0] w fun e w' => e = .returned (.string r) ∧ Below w.heap.size w w' := by
  unfold strconv_Itoa.f at h
  split at h
  · rename_i h1
    obtain rfl := Option.some.inj h
    refine (Tryd.strconv_Itoa a0 h1.1 h1.2 w hW).mono fun e w' ⟨h2, n, os, h3⟩ => ⟨h2, ?_⟩
    rw [h3]
    exact grow_below w n os
  · cases h
def strings_HasPrefix.f (a0 : ByteArray) (a1 : ByteArray) : Option Bool := some (Lib.hasPrefix a0.data.toList a1.data.toList)
theorem strings_HasPrefix.calls (a0 : ByteArray) (a1 : ByteArray) (r : Bool) (w : World) (h : strings_HasPrefix.f a0 a1 = some r) :
    Calls Tryd.prog 103 #[.string a0, .string a1] w fun e w' => e = .returned (.bool r) ∧ Drawn0 w w' := by
  obtain rfl := Option.some.inj h
  refine (Tryd.strings_HasPrefix a0 a1 w).mono fun e w' ⟨h1, h2⟩ => ⟨h1, ?_⟩
  rw [h2]
  exact Drawn0.refl _
theorem index_lt : ∀ (l : List UInt8) (c : UInt8), Lib.indexByte l c < (l.length : Int)
  | [], c => by unfold Lib.indexByte; simp
  | b :: l, c => by
    have ih := index_lt l c
    unfold Lib.indexByte
    simp only [List.length_cons]
    split
    · omega
    · split <;> omega
theorem sCut_calls (s : ByteArray) (c : UInt8) (w : World) (hs : s.size ≤ 1099511627776) :
    Calls Tryd.prog 113 #[.string s, .string ⟨#[c]⟩] w fun e w' => e = .returned (if 0 ≤ Lib.indexByte s.data.toList c then .tuple #[.string (s.extract 0 (Lib.indexByte s.data.toList c).toNat), .string (s.extract ((Lib.indexByte s.data.toList c).toNat + 1) s.size), .bool true] else .tuple #[.string s, .string ⟨#[]⟩, .bool false]) ∧ Drawn0 w w' := by
  obtain ⟨i, hi⟩ : ∃ i, i = Lib.indexByte s.data.toList c := ⟨_, rfl⟩
  have hI : ∀ w, Calls Tryd.prog 108 #[.string s, .string ⟨#[c]⟩] w fun e w' => e = .returned (.int .i64 i) ∧ w' = w := fun w => by rw [hi]; exact Tryd.stringslite_Index_one s c w
  rw [← hi]
  have hlt : i < (s.size : Int) := by
    have h_ := index_lt s.data.toList c
    have hl : s.data.toList.length = s.size := by simp
    rw [hi]
    omega
  clear hi
  by_cases h0 : 0 ≤ i
  · have h0b : decide (0 ≤ i) = true := decide_eq_true h0
    rw [if_pos h0]
    go_enter Tryd.func113, Tryd.ntmps113
    go_wp2_with (first | (go_at_call 108; refine (hI _).mono ?_; rintro e w' ⟨rfl, rfl⟩))
    have hw1 : wrap64 (i + 1) = i + 1 := by unfold wrap64; omega
    have c1 : decide (i ≤ (s.size : Int)) = true := decide_eq_true (by omega)
    have c2 : decide (0 ≤ i + 1) = true := decide_eq_true (by omega)
    have c3 : decide (i + 1 ≤ (s.size : Int)) = true := decide_eq_true (by omega)
    have ht : (i + 1).toNat = i.toNat + 1 := by omega
    go_region
    go_wp2
    go_ret3
    exact ⟨rfl, by repeat (first | exact Drawn0.refl _ | apply Drawn0.step)⟩
  · have h0b : decide (0 ≤ i) = false := decide_eq_false h0
    rw [if_neg h0]
    go_enter Tryd.func113, Tryd.ntmps113
    go_wp2_with (first | (go_at_call 108; refine (hI _).mono ?_; rintro e w' ⟨rfl, rfl⟩))
    go_ret3
    exact ⟨rfl, by repeat (first | exact Drawn0.refl _ | apply Drawn0.step)⟩
def strings_Cut.f (a0 : ByteArray) (a1 : ByteArray) : Option (ByteArray × ByteArray × Bool) := match a1.data.toList with
  | [c] => if a0.size ≤ 1099511627776 then some (if 0 ≤ Lib.indexByte a0.data.toList c then (a0.extract 0 (Lib.indexByte a0.data.toList c).toNat, a0.extract ((Lib.indexByte a0.data.toList c).toNat + 1) a0.size, true) else (a0, ⟨#[]⟩, false)) else none
  | _ => none
theorem strings_Cut.calls (a0 : ByteArray) (a1 : ByteArray) (r1 : ByteArray) (r2 : ByteArray) (r3 : Bool) (w : World) (h : strings_Cut.f a0 a1 = some (r1, r2, r3)) :
    Calls Tryd.prog 101 #[.string a0, .string a1] w fun e w' => e = .returned (.tuple #[.string r1, .string r2, .bool r3]) ∧ Drawn0 w w' := by
  unfold strings_Cut.f at h
  split at h
  · rename_i c hc
    obtain ⟨⟨l⟩⟩ := a1
    simp only at hc
    subst hc
    split at h
    · rename_i hs
      have h := Option.some.inj h
      have hC : Calls Tryd.prog 113 #[.string a0, .string ⟨#[c]⟩] w fun e w' => e = .returned (.tuple #[.string r1, .string r2, .bool r3]) ∧ Drawn0 w w' := by
        refine (sCut_calls a0 c w hs).mono fun e w' ⟨h1, h2⟩ => ⟨?_, h2⟩
        rw [h1]
        split at h
        · rename_i hi
          rw [if_pos hi]
          simp only [Prod.mk.injEq] at h
          rw [h.1, h.2.1, h.2.2]
        · rename_i hi
          rw [if_neg hi]
          simp only [Prod.mk.injEq] at h
          rw [h.1, h.2.1, h.2.2]
      clear h
      go_enter Tryd.func101, Tryd.ntmps101
      go_wp2_with (first | (go_at_call 113; refine hC.mono ?_; rintro e w' ⟨rfl, ⟨n_, rfl⟩⟩))
      go_ret3
      exact ⟨rfl, by repeat (first | exact Drawn0.refl _ | apply Drawn0.step)⟩
    · cases h
  · cases h
theorem wf_of_laid {W : World} (h : Lib.VarReads Tryd.prog W "internal/strconv.uint64pow10" (Lib.tabData .u64 Lib.pow10Tab)) : Wf W := by
  obtain ⟨g', t', cs, fuel, p, hg', ht', hvar, hd⟩ := h
  obtain rfl := Option.some.inj (tabG_is.symm.trans hg')
  have hty : (Tryd.prog.globals[tabG]?).map (·.type) = some 133 := by kernel_rfl
  obtain rfl := Option.some.inj (hty.symm.trans ht')
  unfold Wf Lib.TabIs
  rw [hvar, ← Lib.cells_of_tab Tryd.underlying133 Tryd.underlying93 (by kernel_rfl) (by kernel_rfl) hd]
end Go.Proofs.YtaabfffpknkpeaaDoor.Giv
