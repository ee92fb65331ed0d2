/-
  DERIVED. GIVEN WITH THE SEED: THE CARDS: each row of YtmofnodjnjgbdaaDoorRows.lean that lists a variable, with what it lists TIED to the program's text (the seventh form; the later family's looks); each row that meets fmt, with fmt's text TOLD by the authors' own Lean function (tested against real Go, not proved from fmt's source: count such statements apart). THE CARD IS WHAT COUNTS. Prove the row's statement (the work); the ties are given (YtmofnodjnjgbdaaDoorTie.lean); close each card by the builder's one call (the guide's Derived/Test/ToyasCard.lean, 'card_holds'). Laid BY PROGRAM, IN A SANDBOX (cutbox-door.mjs). By AI agents, Wed Nov 11 2026. No macro, syntax, notation, axiom, sorry.
-/
import Derived.Test.YtmofnodjnjgbdaaDoorRows
import GoSem.ClaimSeven
namespace Go.Proofs.YtmofnodjnjgbdaaDoor
namespace Rows

/-- THE TIED CARD OF 'laws.FnExactReadPath'. -/
def fnExactReadPathCard : Claim7 := { stood := { row := fnExactReadPathRow, standIns := [], harness := (true, "57a275d2528fe3fac037a623183a876d9f094ffd2dec7efb44fa8f3141805598"), looks := false }, kinds := [], alts := [], laidByText := true, laidKinds := [.data, .pinned], laidTests := true, laidLooks := .later }
def FnExactReadPathCardSaid : Prop := Claim7.holds Tryd.pinned (.plain (OpenSpec.ofChange fnExactReadPathSpec)) fnExactReadPathCard

/-- THE TIED CARD OF 'laws.FnExactVisitsOf'. -/
def fnExactVisitsOfCard : Claim7 := { stood := { row := fnExactVisitsOfRow, standIns := [], harness := (true, "57a275d2528fe3fac037a623183a876d9f094ffd2dec7efb44fa8f3141805598"), looks := false }, kinds := [], alts := [], laidByText := true, laidKinds := [.data, .pinned], laidTests := true, laidLooks := .later }
def FnExactVisitsOfCardSaid : Prop := Claim7.holds Tryd.pinned (.plain (OpenSpec.ofChange fnExactVisitsOfSpec)) fnExactVisitsOfCard

/-- THE SECOND FORM's CARD OF 'laws.FnExactReadPath'. -/
def fnExactReadPathUptoCard : Claim7 := { stood := { row := fnExactReadPathUptoRow, standIns := [], harness := (true, "57a275d2528fe3fac037a623183a876d9f094ffd2dec7efb44fa8f3141805598"), looks := false }, kinds := [], alts := [], laidByText := true, laidKinds := [.data, .pinned], laidTests := true, laidLooks := .later }
def FnExactReadPathUptoCardSaid : Prop := Claim7.holds Tryd.pinned (.plain (OpenSpec.upto fnExactReadPathSpec)) fnExactReadPathUptoCard

/-- THE SECOND FORM's CARD OF 'laws.FnExactVisitsOf'. -/
def fnExactVisitsOfUptoCard : Claim7 := { stood := { row := fnExactVisitsOfUptoRow, standIns := [], harness := (true, "57a275d2528fe3fac037a623183a876d9f094ffd2dec7efb44fa8f3141805598"), looks := false }, kinds := [], alts := [], laidByText := true, laidKinds := [.data, .pinned], laidTests := true, laidLooks := .later }
def FnExactVisitsOfUptoCardSaid : Prop := Claim7.holds Tryd.pinned (.plain (OpenSpec.upto fnExactVisitsOfSpec)) fnExactVisitsOfUptoCard
end Rows
end Go.Proofs.YtmofnodjnjgbdaaDoor
