import Derived.Test.YtgifhmjbmnopcaaPx2
import Derived.Test.YtgifhmjbmnopcaaQMono
/- Plain facts on least letters: nails that matter in a table. -/
namespace Go.Proofs.Ytgifhmjbmnopcaa.Q
open Go.RowKit Go.Proofs.Ytgifhmjbmnopcaa.Px Go.Proofs.Ytgifhmjbmnopcaa.Giv Go.Proofs.YtgifhmjbmnopcaaW.PrintWords Go.Proofs.YtgifhmjbmnopcaaW.PrintLast
set_option linter.unusedVariables false
set_option linter.unusedSimpArgs false
def exB (p : Nat → Bool) (i : Nat) : Bool := (List.range i).any p
theorem exB_zero (p : Nat → Bool) : exB p 0 = false := rfl
theorem exB_succ (p : Nat → Bool) (i : Nat) : exB p (i + 1) = (exB p i || p i) := by
  unfold exB
  rw [List.range_succ, List.any_append]
  simp
theorem exB_true (p : Nat → Bool) (m i : Nat) (hi : i < m) (h : p i = true) : exB p m = true := by
  unfold exB
  rw [List.any_eq_true]
  exact ⟨i, List.mem_range.2 hi, h⟩
theorem exB_congr (p q : Nat → Bool) (m : Nat) (h : ∀ i, i < m → p i = q i) : exB p m = exB q m := by
  induction m with
  | zero => rfl
  | succ m ih => rw [exB_succ, exB_succ, ih (fun i hi => h i (by omega)), h m (by omega)]
def matP (T : Int → Bool) (x : Int) (s : Nat) : Bool := freeB (s : Int) x && (!T (s : Int) && T (nextI (s : Int) x))
def difP (T : Int → Bool) (x : Int) (s : Nat) : Bool := freeB (s : Int) x && (T (s : Int) != T (nextI (s : Int) x))
def lesP (T : Int → Bool) (x : Int) (s : Nat) : Bool := T (s : Int) && freeB (s : Int) x
/-- The nails up to the j-th that matter. -/
def matI (T : Int → Bool) : Nat → Int
  | 0 => 0
  | j + 1 => if exB (matP T ((j + 1 : Nat) : Int)) 64 = true then nextI (matI T j) ((j + 1 : Nat) : Int) else matI T j
def difI (T : Int → Bool) : Nat → Int
  | 0 => 0
  | j + 1 => if exB (difP T ((j + 1 : Nat) : Int)) 64 = true then nextI (difI T j) ((j + 1 : Nat) : Int) else difI T j
/-- The sum behind the j-th nail. -/
def sumI (T : Int → Bool) (m : Int) : Nat → Int
  | 0 => 0
  | j + 1 => if freeB m ((j + 1 : Nat) : Int) = true then sumI T m j else sumI T m j + 1 + (if exB (lesP T ((j + 1 : Nat) : Int)) 64 = true then 1 else 0)
theorem sumI_range (T : Int → Bool) (m : Int) (j : Nat) : 0 ≤ sumI T m j ∧ sumI T m j ≤ 2 * (j : Int) := by
  induction j with
  | zero => simp [sumI]
  | succ j ih =>
    unfold sumI
    split
    · omega
    · split <;> omega
def tabT (s n : Nat) : Bool := decide (0 ≤ nextI (s : Int) (n : Int) ∧ nextI (s : Int) (n : Int) ≤ 63) && (nextI (nextI (s : Int) (n : Int)) (n : Int) == nextI (s : Int) (n : Int)) && (spec_l3In.f (s : Int) (n : Int) == some (!freeB (s : Int) (n : Int)))
set_option maxRecDepth 100000 in
theorem tab_all : ([1, 2, 3, 4, 5, 6].all fun n => (List.range 64).all fun s => tabT s n) = true := by decide +kernel
theorem tab_at {s n : Int} (hs0 : 0 ≤ s) (hs1 : s ≤ 63) (h1 : 1 ≤ n) (h2 : n ≤ 6) : (0 ≤ nextI s n ∧ nextI s n ≤ 63) ∧ nextI (nextI s n) n = nextI s n ∧ spec_l3In.f s n = some (!freeB s n) := by
  obtain ⟨a, rfl⟩ := Int.eq_ofNat_of_zero_le hs0
  obtain ⟨m, rfl⟩ := Int.eq_ofNat_of_zero_le (show 0 ≤ n by omega)
  have hm : m ∈ [1, 2, 3, 4, 5, 6] := by
    have : m = 1 ∨ m = 2 ∨ m = 3 ∨ m = 4 ∨ m = 5 ∨ m = 6 := by omega
    simpa using this
  have h := List.all_eq_true.1 (List.all_eq_true.1 tab_all m hm) a (List.mem_range.2 (by omega))
  unfold tabT at h
  simp only [Bool.and_eq_true, decide_eq_true_eq] at h
  exact ⟨h.1.1, eq_of_beq h.1.2, eq_of_beq h.2⟩
theorem matI_range (T : Int → Bool) : ∀ (j : Nat), j ≤ 6 → 0 ≤ matI T j ∧ matI T j ≤ 63 := by
  intro j
  induction j with
  | zero => intro _; simp [matI]
  | succ j ih =>
    intro hj
    have := ih (by omega)
    unfold matI
    split
    · exact (tab_at this.1 this.2 (by omega) (by omega)).1
    · exact this
theorem difI_range (T : Int → Bool) : ∀ (j : Nat), j ≤ 6 → 0 ≤ difI T j ∧ difI T j ≤ 63 := by
  intro j
  induction j with
  | zero => intro _; simp [difI]
  | succ j ih =>
    intro hj
    have := ih (by omega)
    unfold difI
    split
    · exact (tab_at this.1 this.2 (by omega) (by omega)).1
    · exact this
/-- In a word's table both tests whether a nail matters agree. -/
theorem difI_mat {w : List Int} (hb : wordB w = true) : ∀ (j : Nat), j ≤ 6 → difI (fallT w) j = matI (fallT w) j := by
  intro j
  induction j with
  | zero => intro _; rfl
  | succ j ih =>
    intro hj
    unfold difI matI
    rw [ih (by omega)]
    have : exB (difP (fallT w) ((j + 1 : Nat) : Int)) 64 = exB (matP (fallT w) ((j + 1 : Nat) : Int)) 64 := by
      apply exB_congr
      intro s hs
      unfold difP matP
      congr 1
      cases h : fallT w (s : Int) with
      | false => simp
      | true => rw [fall_mono hb (decide_eq_true (by omega)) (by omega) (by omega) h]; rfl
    rw [this]
/-- What both sides answer. -/
def leastP (w : List Int) : Int × Bool := if wordB w = true then (sumI (fallT w) (matI (fallT w) 6) 6, true) else (0, false)
end Go.Proofs.Ytgifhmjbmnopcaa.Q
