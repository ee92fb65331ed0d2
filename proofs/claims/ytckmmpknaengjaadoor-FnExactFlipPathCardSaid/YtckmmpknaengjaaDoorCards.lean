/-
  DERIVED. GIVEN WITH THE SEED: THE CARDS: each row of YtckmmpknaengjaaDoorRows.lean that lists a variable, with what it lists TIED to the program's text (the seventh form; the later family's looks); each row that meets fmt, with fmt's text TOLD by the authors' own Lean function (tested against real Go, not proved from fmt's source: count such statements apart). THE CARD IS WHAT COUNTS. Prove the row's statement (the work); the ties are given (YtckmmpknaengjaaDoorTie.lean); close each card by the builder's one call (the guide's Derived/Test/ToyasCard.lean, 'card_holds'). Laid BY PROGRAM, IN A SANDBOX (cutbox-door.mjs). By AI agents, Wed Nov 11 2026. No macro, syntax, notation, axiom, sorry.
-/
import Derived.Test.YtckmmpknaengjaaDoorRows
import GoSem.ClaimSeven
namespace Go.Proofs.YtckmmpknaengjaaDoor
namespace Rows

/-- THE TIED CARD OF 'laws.FnExactIsPath'. -/
def fnExactIsPathCard : Claim7 := { stood := { row := fnExactIsPathRow, standIns := [], harness := (true, "31251f4108bfd959c465d4d3add7f18b418c1e334abbb763107a97b904b03807"), looks := false }, kinds := [], alts := [], laidByText := true, laidKinds := [.data, .pinned], laidTests := true, laidLooks := .later }
def FnExactIsPathCardSaid : Prop := Claim7.holds Tryd.pinned (.plain (OpenSpec.ofChange fnExactIsPathSpec)) fnExactIsPathCard

/-- THE TIED CARD OF 'laws.FnExactEndOf'. -/
def fnExactEndOfCard : Claim7 := { stood := { row := fnExactEndOfRow, standIns := [], harness := (true, "31251f4108bfd959c465d4d3add7f18b418c1e334abbb763107a97b904b03807"), looks := false }, kinds := [], alts := [], laidByText := true, laidKinds := [.data, .pinned], laidTests := true, laidLooks := .later }
def FnExactEndOfCardSaid : Prop := Claim7.holds Tryd.pinned (.plain (OpenSpec.ofChange fnExactEndOfSpec)) fnExactEndOfCard

/-- THE TIED CARD OF 'laws.FnExactIsClosed'. -/
def fnExactIsClosedCard : Claim7 := { stood := { row := fnExactIsClosedRow, standIns := [], harness := (true, "31251f4108bfd959c465d4d3add7f18b418c1e334abbb763107a97b904b03807"), looks := false }, kinds := [], alts := [], laidByText := true, laidKinds := [.data, .pinned], laidTests := true, laidLooks := .later }
def FnExactIsClosedCardSaid : Prop := Claim7.holds Tryd.pinned (.plain (OpenSpec.ofChange fnExactIsClosedSpec)) fnExactIsClosedCard

/-- THE TIED CARD OF 'laws.FnExactJoinPaths'. -/
def fnExactJoinPathsCard : Claim7 := { stood := { row := fnExactJoinPathsRow, standIns := [], harness := (true, "31251f4108bfd959c465d4d3add7f18b418c1e334abbb763107a97b904b03807"), looks := false }, kinds := [], alts := [], laidByText := true, laidKinds := [.data, .pinned], laidTests := true, laidLooks := .later }
def FnExactJoinPathsCardSaid : Prop := Claim7.holds Tryd.pinned (.plain (OpenSpec.ofChange fnExactJoinPathsSpec)) fnExactJoinPathsCard

/-- THE TIED CARD OF 'laws.FnExactBoxOf'. -/
def fnExactBoxOfCard : Claim7 := { stood := { row := fnExactBoxOfRow, standIns := [], harness := (true, "31251f4108bfd959c465d4d3add7f18b418c1e334abbb763107a97b904b03807"), looks := false }, kinds := [], alts := [], laidByText := true, laidKinds := [.data, .pinned], laidTests := true, laidLooks := .later }
def FnExactBoxOfCardSaid : Prop := Claim7.holds Tryd.pinned (.plain (OpenSpec.ofChange fnExactBoxOfSpec)) fnExactBoxOfCard

/-- THE TIED CARD OF 'laws.FnExactFlipPath'. -/
def fnExactFlipPathCard : Claim7 := { stood := { row := fnExactFlipPathRow, standIns := [], harness := (true, "31251f4108bfd959c465d4d3add7f18b418c1e334abbb763107a97b904b03807"), looks := false }, kinds := [], alts := [], laidByText := true, laidKinds := [.data, .pinned], laidTests := true, laidLooks := .later }
def FnExactFlipPathCardSaid : Prop := Claim7.holds Tryd.pinned (.plain (OpenSpec.ofChange fnExactFlipPathSpec)) fnExactFlipPathCard

/-- THE TIED CARD OF 'laws.FnExactShrinkPath'. -/
def fnExactShrinkPathCard : Claim7 := { stood := { row := fnExactShrinkPathRow, standIns := [], harness := (true, "31251f4108bfd959c465d4d3add7f18b418c1e334abbb763107a97b904b03807"), looks := false }, kinds := [], alts := [], laidByText := true, laidKinds := [.data, .pinned], laidTests := true, laidLooks := .later }
def FnExactShrinkPathCardSaid : Prop := Claim7.holds Tryd.pinned (.plain (OpenSpec.ofChange fnExactShrinkPathSpec)) fnExactShrinkPathCard

/-- THE TIED CARD OF 'laws.FnExactReversePath'. -/
def fnExactReversePathCard : Claim7 := { stood := { row := fnExactReversePathRow, standIns := [], harness := (true, "31251f4108bfd959c465d4d3add7f18b418c1e334abbb763107a97b904b03807"), looks := false }, kinds := [], alts := [], laidByText := true, laidKinds := [.data, .pinned], laidTests := true, laidLooks := .later }
def FnExactReversePathCardSaid : Prop := Claim7.holds Tryd.pinned (.plain (OpenSpec.ofChange fnExactReversePathSpec)) fnExactReversePathCard

/-- THE TIED CARD OF 'laws.FnExactPushCorner'. -/
def fnExactPushCornerCard : Claim7 := { stood := { row := fnExactPushCornerRow, standIns := [], harness := (true, "31251f4108bfd959c465d4d3add7f18b418c1e334abbb763107a97b904b03807"), looks := false }, kinds := [], alts := [], laidByText := true, laidKinds := [.data, .pinned], laidTests := true, laidLooks := .later }
def FnExactPushCornerCardSaid : Prop := Claim7.holds Tryd.pinned (.plain (OpenSpec.ofChange fnExactPushCornerSpec)) fnExactPushCornerCard

/-- THE TIED CARD OF 'laws.FnExactTurnsAround'. -/
def fnExactTurnsAroundCard : Claim7 := { stood := { row := fnExactTurnsAroundRow, standIns := [], harness := (true, "31251f4108bfd959c465d4d3add7f18b418c1e334abbb763107a97b904b03807"), looks := false }, kinds := [], alts := [], laidByText := true, laidKinds := [.data, .pinned], laidTests := true, laidLooks := .later }
def FnExactTurnsAroundCardSaid : Prop := Claim7.holds Tryd.pinned (.plain (OpenSpec.ofChange fnExactTurnsAroundSpec)) fnExactTurnsAroundCard

/-- THE TIED CARD OF 'laws.FnExactFreeCorners'. -/
def fnExactFreeCornersCard : Claim7 := { stood := { row := fnExactFreeCornersRow, standIns := [], harness := (true, "31251f4108bfd959c465d4d3add7f18b418c1e334abbb763107a97b904b03807"), looks := false }, kinds := [], alts := [], laidByText := true, laidKinds := [.data, .pinned], laidTests := true, laidLooks := .later }
def FnExactFreeCornersCardSaid : Prop := Claim7.holds Tryd.pinned (.plain (OpenSpec.ofChange fnExactFreeCornersSpec)) fnExactFreeCornersCard

/-- THE SECOND FORM's CARD OF 'laws.FnExactIsPath'. -/
def fnExactIsPathUptoCard : Claim7 := { stood := { row := fnExactIsPathUptoRow, standIns := [], harness := (true, "31251f4108bfd959c465d4d3add7f18b418c1e334abbb763107a97b904b03807"), looks := false }, kinds := [], alts := [], laidByText := true, laidKinds := [.data, .pinned], laidTests := true, laidLooks := .later }
def FnExactIsPathUptoCardSaid : Prop := Claim7.holds Tryd.pinned (.plain (OpenSpec.upto fnExactIsPathSpec)) fnExactIsPathUptoCard

/-- THE SECOND FORM's CARD OF 'laws.FnExactEndOf'. -/
def fnExactEndOfUptoCard : Claim7 := { stood := { row := fnExactEndOfUptoRow, standIns := [], harness := (true, "31251f4108bfd959c465d4d3add7f18b418c1e334abbb763107a97b904b03807"), looks := false }, kinds := [], alts := [], laidByText := true, laidKinds := [.data, .pinned], laidTests := true, laidLooks := .later }
def FnExactEndOfUptoCardSaid : Prop := Claim7.holds Tryd.pinned (.plain (OpenSpec.upto fnExactEndOfSpec)) fnExactEndOfUptoCard

/-- THE SECOND FORM's CARD OF 'laws.FnExactIsClosed'. -/
def fnExactIsClosedUptoCard : Claim7 := { stood := { row := fnExactIsClosedUptoRow, standIns := [], harness := (true, "31251f4108bfd959c465d4d3add7f18b418c1e334abbb763107a97b904b03807"), looks := false }, kinds := [], alts := [], laidByText := true, laidKinds := [.data, .pinned], laidTests := true, laidLooks := .later }
def FnExactIsClosedUptoCardSaid : Prop := Claim7.holds Tryd.pinned (.plain (OpenSpec.upto fnExactIsClosedSpec)) fnExactIsClosedUptoCard

/-- THE SECOND FORM's CARD OF 'laws.FnExactJoinPaths'. -/
def fnExactJoinPathsUptoCard : Claim7 := { stood := { row := fnExactJoinPathsUptoRow, standIns := [], harness := (true, "31251f4108bfd959c465d4d3add7f18b418c1e334abbb763107a97b904b03807"), looks := false }, kinds := [], alts := [], laidByText := true, laidKinds := [.data, .pinned], laidTests := true, laidLooks := .later }
def FnExactJoinPathsUptoCardSaid : Prop := Claim7.holds Tryd.pinned (.plain (OpenSpec.upto fnExactJoinPathsSpec)) fnExactJoinPathsUptoCard

/-- THE SECOND FORM's CARD OF 'laws.FnExactBoxOf'. -/
def fnExactBoxOfUptoCard : Claim7 := { stood := { row := fnExactBoxOfUptoRow, standIns := [], harness := (true, "31251f4108bfd959c465d4d3add7f18b418c1e334abbb763107a97b904b03807"), looks := false }, kinds := [], alts := [], laidByText := true, laidKinds := [.data, .pinned], laidTests := true, laidLooks := .later }
def FnExactBoxOfUptoCardSaid : Prop := Claim7.holds Tryd.pinned (.plain (OpenSpec.upto fnExactBoxOfSpec)) fnExactBoxOfUptoCard

/-- THE SECOND FORM's CARD OF 'laws.FnExactFlipPath'. -/
def fnExactFlipPathUptoCard : Claim7 := { stood := { row := fnExactFlipPathUptoRow, standIns := [], harness := (true, "31251f4108bfd959c465d4d3add7f18b418c1e334abbb763107a97b904b03807"), looks := false }, kinds := [], alts := [], laidByText := true, laidKinds := [.data, .pinned], laidTests := true, laidLooks := .later }
def FnExactFlipPathUptoCardSaid : Prop := Claim7.holds Tryd.pinned (.plain (OpenSpec.upto fnExactFlipPathSpec)) fnExactFlipPathUptoCard

/-- THE SECOND FORM's CARD OF 'laws.FnExactShrinkPath'. -/
def fnExactShrinkPathUptoCard : Claim7 := { stood := { row := fnExactShrinkPathUptoRow, standIns := [], harness := (true, "31251f4108bfd959c465d4d3add7f18b418c1e334abbb763107a97b904b03807"), looks := false }, kinds := [], alts := [], laidByText := true, laidKinds := [.data, .pinned], laidTests := true, laidLooks := .later }
def FnExactShrinkPathUptoCardSaid : Prop := Claim7.holds Tryd.pinned (.plain (OpenSpec.upto fnExactShrinkPathSpec)) fnExactShrinkPathUptoCard

/-- THE SECOND FORM's CARD OF 'laws.FnExactReversePath'. -/
def fnExactReversePathUptoCard : Claim7 := { stood := { row := fnExactReversePathUptoRow, standIns := [], harness := (true, "31251f4108bfd959c465d4d3add7f18b418c1e334abbb763107a97b904b03807"), looks := false }, kinds := [], alts := [], laidByText := true, laidKinds := [.data, .pinned], laidTests := true, laidLooks := .later }
def FnExactReversePathUptoCardSaid : Prop := Claim7.holds Tryd.pinned (.plain (OpenSpec.upto fnExactReversePathSpec)) fnExactReversePathUptoCard

/-- THE SECOND FORM's CARD OF 'laws.FnExactPushCorner'. -/
def fnExactPushCornerUptoCard : Claim7 := { stood := { row := fnExactPushCornerUptoRow, standIns := [], harness := (true, "31251f4108bfd959c465d4d3add7f18b418c1e334abbb763107a97b904b03807"), looks := false }, kinds := [], alts := [], laidByText := true, laidKinds := [.data, .pinned], laidTests := true, laidLooks := .later }
def FnExactPushCornerUptoCardSaid : Prop := Claim7.holds Tryd.pinned (.plain (OpenSpec.upto fnExactPushCornerSpec)) fnExactPushCornerUptoCard

/-- THE SECOND FORM's CARD OF 'laws.FnExactTurnsAround'. -/
def fnExactTurnsAroundUptoCard : Claim7 := { stood := { row := fnExactTurnsAroundUptoRow, standIns := [], harness := (true, "31251f4108bfd959c465d4d3add7f18b418c1e334abbb763107a97b904b03807"), looks := false }, kinds := [], alts := [], laidByText := true, laidKinds := [.data, .pinned], laidTests := true, laidLooks := .later }
def FnExactTurnsAroundUptoCardSaid : Prop := Claim7.holds Tryd.pinned (.plain (OpenSpec.upto fnExactTurnsAroundSpec)) fnExactTurnsAroundUptoCard

/-- THE SECOND FORM's CARD OF 'laws.FnExactFreeCorners'. -/
def fnExactFreeCornersUptoCard : Claim7 := { stood := { row := fnExactFreeCornersUptoRow, standIns := [], harness := (true, "31251f4108bfd959c465d4d3add7f18b418c1e334abbb763107a97b904b03807"), looks := false }, kinds := [], alts := [], laidByText := true, laidKinds := [.data, .pinned], laidTests := true, laidLooks := .later }
def FnExactFreeCornersUptoCardSaid : Prop := Claim7.holds Tryd.pinned (.plain (OpenSpec.upto fnExactFreeCornersSpec)) fnExactFreeCornersUptoCard
end Rows
end Go.Proofs.YtckmmpknaengjaaDoor
