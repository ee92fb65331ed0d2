/-
  NARROWER THAN 'FOR EVERY INPUT', by the rows' own cells (each row's printed sentence says how): FnExactIsPath: laid · FnExactEndOf: laid · FnExactIsClosed: laid · FnExactJoinPaths: laid · FnExactBoxOf: laid · FnExactFlipPath: laid · FnExactShrinkPath: laid · FnExactReversePath: laid · FnExactPushCorner: laid · FnExactTurnsAround: laid · FnExactFreeCorners: laid.
  DERIVED. THE GIVEN ROWS OF THIS SEAT. 11 by the template 'for every input the law returns true; each argument reads behind the call as it read before'; 0 by the template 'total and deterministic' (their statements: YtckmmpknaengjaaDoorTotals.lean).
  GIVEN WITH THE SEED: the statements are not yours to turn. If you find one false, say at which input.
  Laid BY PROGRAM, IN A SANDBOX (cutbox-rows.mjs): the forced cells as the released guide's own fill.sh prints them over the translation f60b776fbc0ec3a4… (all of the seat's roots in one cut). By AI agents, Wed Nov 11 2026. No macro, syntax, notation, axiom, sorry.
-/
import Derived.Test.YtckmmpknaengjaaDoorChecked
import GoSem.PinnedTables
import GoSem.Claim
import GoSem.ClaimJoined
import GoSem.ClaimMapViews
import Derived.JoinedTies
import Derived.KernelRfl
namespace Go.Proofs.YtckmmpknaengjaaDoor
/- THE CELL 'sum', in the pinned program and in every row, IS THE sha256 OF THE DUMP (.gsa) THAT YtckmmpknaengjaaDoorProg.lean LOADS. Nothing in Lean hashes anything: it is a label: what it is worth is what the hold of that sum in a sandbox is worth. -/
noncomputable def Tryd.pinned : Pinned := { name := "ytckmmpknaengjaadoor", sum := "f60b776fbc0ec3a4a3c98f38a9fca9545e87bf10bbc095c09498e8dfe25bfe4b", checked := Tryd.checked }
namespace Rows
def none {H : Type} : Left H := { results := [], args := [] }

/- WHAT THE LISTED PACKAGE-LEVEL VARIABLES READ AS WHEN THE CALL BEGINS. Each datum BY PROGRAM (the guide's laid-datum.mjs) off the statement by which the dump's own 'gosem.cut.vars' lays the variable. In a bare row this is a premise. The card (YtckmmpknaengjaaDoorCards.lean) ties it to the program's text. -/
def laid_unicode_utf8_acceptRanges {H : Type} : DataW H := .agg [.agg [.lit (.int .u8 128), .lit (.int .u8 191)], .agg [.lit (.int .u8 160), .lit (.int .u8 191)], .agg [.lit (.int .u8 128), .lit (.int .u8 159)], .agg [.lit (.int .u8 144), .lit (.int .u8 191)], .agg [.lit (.int .u8 128), .lit (.int .u8 143)], .agg [.lit (.int .u8 0), .lit (.int .u8 0)], .agg [.lit (.int .u8 0), .lit (.int .u8 0)], .agg [.lit (.int .u8 0), .lit (.int .u8 0)], .agg [.lit (.int .u8 0), .lit (.int .u8 0)], .agg [.lit (.int .u8 0), .lit (.int .u8 0)], .agg [.lit (.int .u8 0), .lit (.int .u8 0)], .agg [.lit (.int .u8 0), .lit (.int .u8 0)], .agg [.lit (.int .u8 0), .lit (.int .u8 0)], .agg [.lit (.int .u8 0), .lit (.int .u8 0)], .agg [.lit (.int .u8 0), .lit (.int .u8 0)], .agg [.lit (.int .u8 0), .lit (.int .u8 0)]]
/-- One of Go's own tables, pinned by name: the form's constant. -/
def laid_unicode_utf8_first : DataW Unit := Go.Pinned.utf8First

/-- 'laws.FnExactIsPath': WHATEVER THE INPUT: true; the input reads as it did. -/
def fnExactIsPathSpec : ChangeSpec := { name := "fnExactIsPath", fn := fun _ => fun
  | [d] => { results := [.lit (.bool true)], args := [d] }
  | _ => none }
def fnExactIsPathRow : OpenClaim := { program := "ytckmmpknaengjaadoor", sum := "f60b776fbc0ec3a4a3c98f38a9fca9545e87bf10bbc095c09498e8dfe25bfe4b", func := "loop.example/g01206/laws.FnExactIsPath", spec := "fnExactIsPath", inPlace := ["internal/bytealg.IndexByteString", "internal/bytealg.IndexString"], unfollowed := true, recurses := true, named := ["unicode/utf8.first", "unicode/utf8.acceptRanges", "internal/bytealg.MaxLen"], apart := false, laid := [("unicode/utf8.acceptRanges", laid_unicode_utf8_acceptRanges), ("unicode/utf8.first", laid_unicode_utf8_first)] }
def FnExactIsPathSaid : Prop := fnExactIsPathRow.holds Tryd.pinned (OpenSpec.ofChange fnExactIsPathSpec)

/-- ITS FALSE NEIGHBOUR: 'it returns false'. Refute it at one input. -/
def fnExactIsPathWrong : ChangeSpec := { name := "fnExactIsPath", fn := fun _ => fun
  | [d] => { results := [.lit (.bool false)], args := [d] }
  | _ => none }
def FnExactIsPathWrongFalsely : Prop := fnExactIsPathRow.holds Tryd.pinned (OpenSpec.ofChange fnExactIsPathWrong)

/-- 'laws.FnExactEndOf': WHATEVER THE INPUT: true; the input reads as it did. -/
def fnExactEndOfSpec : ChangeSpec := { name := "fnExactEndOf", fn := fun _ => fun
  | [d] => { results := [.lit (.bool true)], args := [d] }
  | _ => none }
def fnExactEndOfRow : OpenClaim := { program := "ytckmmpknaengjaadoor", sum := "f60b776fbc0ec3a4a3c98f38a9fca9545e87bf10bbc095c09498e8dfe25bfe4b", func := "loop.example/g01206/laws.FnExactEndOf", spec := "fnExactEndOf", inPlace := ["internal/bytealg.IndexByteString", "internal/bytealg.IndexString"], unfollowed := true, recurses := true, named := ["unicode/utf8.first", "unicode/utf8.acceptRanges", "internal/bytealg.MaxLen"], apart := false, laid := [("unicode/utf8.acceptRanges", laid_unicode_utf8_acceptRanges), ("unicode/utf8.first", laid_unicode_utf8_first)] }
def FnExactEndOfSaid : Prop := fnExactEndOfRow.holds Tryd.pinned (OpenSpec.ofChange fnExactEndOfSpec)

/-- ITS FALSE NEIGHBOUR: 'it returns false'. Refute it at one input. -/
def fnExactEndOfWrong : ChangeSpec := { name := "fnExactEndOf", fn := fun _ => fun
  | [d] => { results := [.lit (.bool false)], args := [d] }
  | _ => none }
def FnExactEndOfWrongFalsely : Prop := fnExactEndOfRow.holds Tryd.pinned (OpenSpec.ofChange fnExactEndOfWrong)

/-- 'laws.FnExactIsClosed': WHATEVER THE INPUT: true; the input reads as it did. -/
def fnExactIsClosedSpec : ChangeSpec := { name := "fnExactIsClosed", fn := fun _ => fun
  | [d] => { results := [.lit (.bool true)], args := [d] }
  | _ => none }
def fnExactIsClosedRow : OpenClaim := { program := "ytckmmpknaengjaadoor", sum := "f60b776fbc0ec3a4a3c98f38a9fca9545e87bf10bbc095c09498e8dfe25bfe4b", func := "loop.example/g01206/laws.FnExactIsClosed", spec := "fnExactIsClosed", inPlace := ["internal/bytealg.IndexByteString", "internal/bytealg.IndexString"], unfollowed := true, recurses := true, named := ["unicode/utf8.first", "unicode/utf8.acceptRanges", "internal/bytealg.MaxLen"], apart := false, laid := [("unicode/utf8.acceptRanges", laid_unicode_utf8_acceptRanges), ("unicode/utf8.first", laid_unicode_utf8_first)] }
def FnExactIsClosedSaid : Prop := fnExactIsClosedRow.holds Tryd.pinned (OpenSpec.ofChange fnExactIsClosedSpec)

/-- ITS FALSE NEIGHBOUR: 'it returns false'. Refute it at one input. -/
def fnExactIsClosedWrong : ChangeSpec := { name := "fnExactIsClosed", fn := fun _ => fun
  | [d] => { results := [.lit (.bool false)], args := [d] }
  | _ => none }
def FnExactIsClosedWrongFalsely : Prop := fnExactIsClosedRow.holds Tryd.pinned (OpenSpec.ofChange fnExactIsClosedWrong)

/-- 'laws.FnExactJoinPaths': WHATEVER THE INPUT: true; the input reads as it did. -/
def fnExactJoinPathsSpec : ChangeSpec := { name := "fnExactJoinPaths", fn := fun _ => fun
  | [d1, d2] => { results := [.lit (.bool true)], args := [d1, d2] }
  | _ => none }
def fnExactJoinPathsRow : OpenClaim := { program := "ytckmmpknaengjaadoor", sum := "f60b776fbc0ec3a4a3c98f38a9fca9545e87bf10bbc095c09498e8dfe25bfe4b", func := "loop.example/g01206/laws.FnExactJoinPaths", spec := "fnExactJoinPaths", inPlace := ["internal/bytealg.IndexByteString", "internal/bytealg.IndexString"], unfollowed := true, recurses := true, named := ["unicode/utf8.first", "unicode/utf8.acceptRanges", "internal/bytealg.MaxLen"], apart := false, laid := [("unicode/utf8.acceptRanges", laid_unicode_utf8_acceptRanges), ("unicode/utf8.first", laid_unicode_utf8_first)] }
def FnExactJoinPathsSaid : Prop := fnExactJoinPathsRow.holds Tryd.pinned (OpenSpec.ofChange fnExactJoinPathsSpec)

/-- ITS FALSE NEIGHBOUR: 'it returns false'. Refute it at one input. -/
def fnExactJoinPathsWrong : ChangeSpec := { name := "fnExactJoinPaths", fn := fun _ => fun
  | [d1, d2] => { results := [.lit (.bool false)], args := [d1, d2] }
  | _ => none }
def FnExactJoinPathsWrongFalsely : Prop := fnExactJoinPathsRow.holds Tryd.pinned (OpenSpec.ofChange fnExactJoinPathsWrong)

/-- 'laws.FnExactBoxOf': WHATEVER THE INPUT: true; the input reads as it did. -/
def fnExactBoxOfSpec : ChangeSpec := { name := "fnExactBoxOf", fn := fun _ => fun
  | [d] => { results := [.lit (.bool true)], args := [d] }
  | _ => none }
def fnExactBoxOfRow : OpenClaim := { program := "ytckmmpknaengjaadoor", sum := "f60b776fbc0ec3a4a3c98f38a9fca9545e87bf10bbc095c09498e8dfe25bfe4b", func := "loop.example/g01206/laws.FnExactBoxOf", spec := "fnExactBoxOf", inPlace := ["internal/bytealg.IndexByteString", "internal/bytealg.IndexString"], unfollowed := true, recurses := true, named := ["unicode/utf8.first", "unicode/utf8.acceptRanges", "internal/bytealg.MaxLen"], apart := false, laid := [("unicode/utf8.acceptRanges", laid_unicode_utf8_acceptRanges), ("unicode/utf8.first", laid_unicode_utf8_first)] }
def FnExactBoxOfSaid : Prop := fnExactBoxOfRow.holds Tryd.pinned (OpenSpec.ofChange fnExactBoxOfSpec)

/-- ITS FALSE NEIGHBOUR: 'it returns false'. Refute it at one input. -/
def fnExactBoxOfWrong : ChangeSpec := { name := "fnExactBoxOf", fn := fun _ => fun
  | [d] => { results := [.lit (.bool false)], args := [d] }
  | _ => none }
def FnExactBoxOfWrongFalsely : Prop := fnExactBoxOfRow.holds Tryd.pinned (OpenSpec.ofChange fnExactBoxOfWrong)

/-- 'laws.FnExactFlipPath': WHATEVER THE INPUT: true; the input reads as it did. -/
def fnExactFlipPathSpec : ChangeSpec := { name := "fnExactFlipPath", fn := fun _ => fun
  | [d] => { results := [.lit (.bool true)], args := [d] }
  | _ => none }
def fnExactFlipPathRow : OpenClaim := { program := "ytckmmpknaengjaadoor", sum := "f60b776fbc0ec3a4a3c98f38a9fca9545e87bf10bbc095c09498e8dfe25bfe4b", func := "loop.example/g01206/laws.FnExactFlipPath", spec := "fnExactFlipPath", inPlace := ["internal/bytealg.IndexByteString", "internal/bytealg.IndexString"], unfollowed := true, recurses := true, named := ["unicode/utf8.first", "unicode/utf8.acceptRanges", "internal/bytealg.MaxLen"], apart := false, laid := [("unicode/utf8.acceptRanges", laid_unicode_utf8_acceptRanges), ("unicode/utf8.first", laid_unicode_utf8_first)] }
def FnExactFlipPathSaid : Prop := fnExactFlipPathRow.holds Tryd.pinned (OpenSpec.ofChange fnExactFlipPathSpec)

/-- ITS FALSE NEIGHBOUR: 'it returns false'. Refute it at one input. -/
def fnExactFlipPathWrong : ChangeSpec := { name := "fnExactFlipPath", fn := fun _ => fun
  | [d] => { results := [.lit (.bool false)], args := [d] }
  | _ => none }
def FnExactFlipPathWrongFalsely : Prop := fnExactFlipPathRow.holds Tryd.pinned (OpenSpec.ofChange fnExactFlipPathWrong)

/-- 'laws.FnExactShrinkPath': WHATEVER THE INPUT: true; the input reads as it did. -/
def fnExactShrinkPathSpec : ChangeSpec := { name := "fnExactShrinkPath", fn := fun _ => fun
  | [d] => { results := [.lit (.bool true)], args := [d] }
  | _ => none }
def fnExactShrinkPathRow : OpenClaim := { program := "ytckmmpknaengjaadoor", sum := "f60b776fbc0ec3a4a3c98f38a9fca9545e87bf10bbc095c09498e8dfe25bfe4b", func := "loop.example/g01206/laws.FnExactShrinkPath", spec := "fnExactShrinkPath", inPlace := ["internal/bytealg.IndexByteString", "internal/bytealg.IndexString"], unfollowed := true, recurses := true, named := ["unicode/utf8.first", "unicode/utf8.acceptRanges", "internal/bytealg.MaxLen"], apart := false, laid := [("unicode/utf8.acceptRanges", laid_unicode_utf8_acceptRanges), ("unicode/utf8.first", laid_unicode_utf8_first)] }
def FnExactShrinkPathSaid : Prop := fnExactShrinkPathRow.holds Tryd.pinned (OpenSpec.ofChange fnExactShrinkPathSpec)

/-- ITS FALSE NEIGHBOUR: 'it returns false'. Refute it at one input. -/
def fnExactShrinkPathWrong : ChangeSpec := { name := "fnExactShrinkPath", fn := fun _ => fun
  | [d] => { results := [.lit (.bool false)], args := [d] }
  | _ => none }
def FnExactShrinkPathWrongFalsely : Prop := fnExactShrinkPathRow.holds Tryd.pinned (OpenSpec.ofChange fnExactShrinkPathWrong)

/-- 'laws.FnExactReversePath': WHATEVER THE INPUT: true; the input reads as it did. -/
def fnExactReversePathSpec : ChangeSpec := { name := "fnExactReversePath", fn := fun _ => fun
  | [d] => { results := [.lit (.bool true)], args := [d] }
  | _ => none }
def fnExactReversePathRow : OpenClaim := { program := "ytckmmpknaengjaadoor", sum := "f60b776fbc0ec3a4a3c98f38a9fca9545e87bf10bbc095c09498e8dfe25bfe4b", func := "loop.example/g01206/laws.FnExactReversePath", spec := "fnExactReversePath", inPlace := ["internal/bytealg.IndexByteString", "internal/bytealg.IndexString"], unfollowed := true, recurses := true, named := ["unicode/utf8.first", "unicode/utf8.acceptRanges", "internal/bytealg.MaxLen"], apart := false, laid := [("unicode/utf8.acceptRanges", laid_unicode_utf8_acceptRanges), ("unicode/utf8.first", laid_unicode_utf8_first)] }
def FnExactReversePathSaid : Prop := fnExactReversePathRow.holds Tryd.pinned (OpenSpec.ofChange fnExactReversePathSpec)

/-- ITS FALSE NEIGHBOUR: 'it returns false'. Refute it at one input. -/
def fnExactReversePathWrong : ChangeSpec := { name := "fnExactReversePath", fn := fun _ => fun
  | [d] => { results := [.lit (.bool false)], args := [d] }
  | _ => none }
def FnExactReversePathWrongFalsely : Prop := fnExactReversePathRow.holds Tryd.pinned (OpenSpec.ofChange fnExactReversePathWrong)

/-- 'laws.FnExactPushCorner': WHATEVER THE INPUT: true; the input reads as it did. -/
def fnExactPushCornerSpec : ChangeSpec := { name := "fnExactPushCorner", fn := fun _ => fun
  | [d1, d2] => { results := [.lit (.bool true)], args := [d1, d2] }
  | _ => none }
def fnExactPushCornerRow : OpenClaim := { program := "ytckmmpknaengjaadoor", sum := "f60b776fbc0ec3a4a3c98f38a9fca9545e87bf10bbc095c09498e8dfe25bfe4b", func := "loop.example/g01206/laws.FnExactPushCorner", spec := "fnExactPushCorner", inPlace := ["internal/bytealg.IndexByteString", "internal/bytealg.IndexString"], unfollowed := true, recurses := true, named := ["unicode/utf8.first", "unicode/utf8.acceptRanges", "internal/bytealg.MaxLen"], apart := false, laid := [("unicode/utf8.acceptRanges", laid_unicode_utf8_acceptRanges), ("unicode/utf8.first", laid_unicode_utf8_first)] }
def FnExactPushCornerSaid : Prop := fnExactPushCornerRow.holds Tryd.pinned (OpenSpec.ofChange fnExactPushCornerSpec)

/-- ITS FALSE NEIGHBOUR: 'it returns false'. Refute it at one input. -/
def fnExactPushCornerWrong : ChangeSpec := { name := "fnExactPushCorner", fn := fun _ => fun
  | [d1, d2] => { results := [.lit (.bool false)], args := [d1, d2] }
  | _ => none }
def FnExactPushCornerWrongFalsely : Prop := fnExactPushCornerRow.holds Tryd.pinned (OpenSpec.ofChange fnExactPushCornerWrong)

/-- 'laws.FnExactTurnsAround': WHATEVER THE INPUT: true; the input reads as it did. -/
def fnExactTurnsAroundSpec : ChangeSpec := { name := "fnExactTurnsAround", fn := fun _ => fun
  | [d1, d2] => { results := [.lit (.bool true)], args := [d1, d2] }
  | _ => none }
def fnExactTurnsAroundRow : OpenClaim := { program := "ytckmmpknaengjaadoor", sum := "f60b776fbc0ec3a4a3c98f38a9fca9545e87bf10bbc095c09498e8dfe25bfe4b", func := "loop.example/g01206/laws.FnExactTurnsAround", spec := "fnExactTurnsAround", inPlace := ["internal/bytealg.IndexByteString", "internal/bytealg.IndexString"], unfollowed := true, recurses := true, named := ["unicode/utf8.first", "unicode/utf8.acceptRanges", "internal/bytealg.MaxLen"], apart := false, laid := [("unicode/utf8.acceptRanges", laid_unicode_utf8_acceptRanges), ("unicode/utf8.first", laid_unicode_utf8_first)] }
def FnExactTurnsAroundSaid : Prop := fnExactTurnsAroundRow.holds Tryd.pinned (OpenSpec.ofChange fnExactTurnsAroundSpec)

/-- ITS FALSE NEIGHBOUR: 'it returns false'. Refute it at one input. -/
def fnExactTurnsAroundWrong : ChangeSpec := { name := "fnExactTurnsAround", fn := fun _ => fun
  | [d1, d2] => { results := [.lit (.bool false)], args := [d1, d2] }
  | _ => none }
def FnExactTurnsAroundWrongFalsely : Prop := fnExactTurnsAroundRow.holds Tryd.pinned (OpenSpec.ofChange fnExactTurnsAroundWrong)

/-- 'laws.FnExactFreeCorners': WHATEVER THE INPUT: true; the input reads as it did. -/
def fnExactFreeCornersSpec : ChangeSpec := { name := "fnExactFreeCorners", fn := fun _ => fun
  | [d] => { results := [.lit (.bool true)], args := [d] }
  | _ => none }
def fnExactFreeCornersRow : OpenClaim := { program := "ytckmmpknaengjaadoor", sum := "f60b776fbc0ec3a4a3c98f38a9fca9545e87bf10bbc095c09498e8dfe25bfe4b", func := "loop.example/g01206/laws.FnExactFreeCorners", spec := "fnExactFreeCorners", inPlace := ["internal/bytealg.IndexByteString", "internal/bytealg.IndexString"], unfollowed := true, recurses := true, named := ["unicode/utf8.first", "unicode/utf8.acceptRanges", "internal/bytealg.MaxLen"], apart := false, laid := [("unicode/utf8.acceptRanges", laid_unicode_utf8_acceptRanges), ("unicode/utf8.first", laid_unicode_utf8_first)] }
def FnExactFreeCornersSaid : Prop := fnExactFreeCornersRow.holds Tryd.pinned (OpenSpec.ofChange fnExactFreeCornersSpec)

/-- ITS FALSE NEIGHBOUR: 'it returns false'. Refute it at one input. -/
def fnExactFreeCornersWrong : ChangeSpec := { name := "fnExactFreeCorners", fn := fun _ => fun
  | [d] => { results := [.lit (.bool false)], args := [d] }
  | _ => none }
def FnExactFreeCornersWrongFalsely : Prop := fnExactFreeCornersRow.holds Tryd.pinned (OpenSpec.ofChange fnExactFreeCornersWrong)

/- THE SECOND FORM. 'bulk': how many values and letters a reading holds, each counted each time it is reached (what is shared counts as often as it is met; a slice's spare places count too). A statement '..UptoSaid' is the law's where the arguments, and the package variables that the reading takes, are together of bulk at most 1048576: NARROWER than '..Said'. Prove '..Said' where nothing that the law and all that it calls make is longer than what came in: it says more and counts as full. Else prove '..UptoSaid'. A law counts once. -/
mutual
def uptoBulk {H : Type} : DataW H → Nat
  | .lit (.string bytes) => bytes.length + 1
  | .lit _ => 1
  | .nil => 1
  | .ptr d => uptoBulk d + 1
  | .slice elems spare => uptoBulkAll elems + uptoBulkAll spare + 1
  | .agg parts => uptoBulkAll parts + 1
  | .iface _ d => uptoBulk d + 1
  | .map entries => uptoBulkEntries entries + 1
  | .held _ => 1
def uptoBulkAll {H : Type} : List (DataW H) → Nat
  | [] => 0
  | d :: r => uptoBulk d + uptoBulkAll r
def uptoBulkEntries {H : Type} : List (Lit × DataW H) → Nat
  | [] => 0
  | x :: r => uptoBulkEntry x + uptoBulkEntries r
def uptoBulkEntry {H : Type} : Lit × DataW H → Nat
  | (.string bytes, d) => bytes.length + uptoBulk d + 1
  | (_, d) => uptoBulk d + 1
 end
def uptoSmall : (H : Type) → List (DataW H) → Bool := fun _ ds => decide (uptoBulkAll ds ≤ 1048576)
def OpenSpec.upto (s : _root_.Go.ChangeSpec) : _root_.Go.OpenSpec := { _root_.Go.OpenSpec.ofChange s with cond := some uptoSmall }

/-- 'laws.FnExactIsPath', WHERE WHAT IT READS IS OF BULK AT MOST 1048576: true; the input reads as it did. -/
def fnExactIsPathUptoRow : OpenClaim := { program := "ytckmmpknaengjaadoor", sum := "f60b776fbc0ec3a4a3c98f38a9fca9545e87bf10bbc095c09498e8dfe25bfe4b", func := "loop.example/g01206/laws.FnExactIsPath", spec := "fnExactIsPath", inPlace := ["internal/bytealg.IndexByteString", "internal/bytealg.IndexString"], unfollowed := true, recurses := true, named := ["unicode/utf8.first", "unicode/utf8.acceptRanges", "internal/bytealg.MaxLen"], apart := false, laid := [("unicode/utf8.acceptRanges", laid_unicode_utf8_acceptRanges), ("unicode/utf8.first", laid_unicode_utf8_first)], narrowed := true }
def FnExactIsPathUptoSaid : Prop := fnExactIsPathUptoRow.holds Tryd.pinned (OpenSpec.upto fnExactIsPathSpec)

/-- 'laws.FnExactEndOf', WHERE WHAT IT READS IS OF BULK AT MOST 1048576: true; the input reads as it did. -/
def fnExactEndOfUptoRow : OpenClaim := { program := "ytckmmpknaengjaadoor", sum := "f60b776fbc0ec3a4a3c98f38a9fca9545e87bf10bbc095c09498e8dfe25bfe4b", func := "loop.example/g01206/laws.FnExactEndOf", spec := "fnExactEndOf", inPlace := ["internal/bytealg.IndexByteString", "internal/bytealg.IndexString"], unfollowed := true, recurses := true, named := ["unicode/utf8.first", "unicode/utf8.acceptRanges", "internal/bytealg.MaxLen"], apart := false, laid := [("unicode/utf8.acceptRanges", laid_unicode_utf8_acceptRanges), ("unicode/utf8.first", laid_unicode_utf8_first)], narrowed := true }
def FnExactEndOfUptoSaid : Prop := fnExactEndOfUptoRow.holds Tryd.pinned (OpenSpec.upto fnExactEndOfSpec)

/-- 'laws.FnExactIsClosed', WHERE WHAT IT READS IS OF BULK AT MOST 1048576: true; the input reads as it did. -/
def fnExactIsClosedUptoRow : OpenClaim := { program := "ytckmmpknaengjaadoor", sum := "f60b776fbc0ec3a4a3c98f38a9fca9545e87bf10bbc095c09498e8dfe25bfe4b", func := "loop.example/g01206/laws.FnExactIsClosed", spec := "fnExactIsClosed", inPlace := ["internal/bytealg.IndexByteString", "internal/bytealg.IndexString"], unfollowed := true, recurses := true, named := ["unicode/utf8.first", "unicode/utf8.acceptRanges", "internal/bytealg.MaxLen"], apart := false, laid := [("unicode/utf8.acceptRanges", laid_unicode_utf8_acceptRanges), ("unicode/utf8.first", laid_unicode_utf8_first)], narrowed := true }
def FnExactIsClosedUptoSaid : Prop := fnExactIsClosedUptoRow.holds Tryd.pinned (OpenSpec.upto fnExactIsClosedSpec)

/-- 'laws.FnExactJoinPaths', WHERE WHAT IT READS IS OF BULK AT MOST 1048576: true; the input reads as it did. -/
def fnExactJoinPathsUptoRow : OpenClaim := { program := "ytckmmpknaengjaadoor", sum := "f60b776fbc0ec3a4a3c98f38a9fca9545e87bf10bbc095c09498e8dfe25bfe4b", func := "loop.example/g01206/laws.FnExactJoinPaths", spec := "fnExactJoinPaths", inPlace := ["internal/bytealg.IndexByteString", "internal/bytealg.IndexString"], unfollowed := true, recurses := true, named := ["unicode/utf8.first", "unicode/utf8.acceptRanges", "internal/bytealg.MaxLen"], apart := false, laid := [("unicode/utf8.acceptRanges", laid_unicode_utf8_acceptRanges), ("unicode/utf8.first", laid_unicode_utf8_first)], narrowed := true }
def FnExactJoinPathsUptoSaid : Prop := fnExactJoinPathsUptoRow.holds Tryd.pinned (OpenSpec.upto fnExactJoinPathsSpec)

/-- 'laws.FnExactBoxOf', WHERE WHAT IT READS IS OF BULK AT MOST 1048576: true; the input reads as it did. -/
def fnExactBoxOfUptoRow : OpenClaim := { program := "ytckmmpknaengjaadoor", sum := "f60b776fbc0ec3a4a3c98f38a9fca9545e87bf10bbc095c09498e8dfe25bfe4b", func := "loop.example/g01206/laws.FnExactBoxOf", spec := "fnExactBoxOf", inPlace := ["internal/bytealg.IndexByteString", "internal/bytealg.IndexString"], unfollowed := true, recurses := true, named := ["unicode/utf8.first", "unicode/utf8.acceptRanges", "internal/bytealg.MaxLen"], apart := false, laid := [("unicode/utf8.acceptRanges", laid_unicode_utf8_acceptRanges), ("unicode/utf8.first", laid_unicode_utf8_first)], narrowed := true }
def FnExactBoxOfUptoSaid : Prop := fnExactBoxOfUptoRow.holds Tryd.pinned (OpenSpec.upto fnExactBoxOfSpec)

/-- 'laws.FnExactFlipPath', WHERE WHAT IT READS IS OF BULK AT MOST 1048576: true; the input reads as it did. -/
def fnExactFlipPathUptoRow : OpenClaim := { program := "ytckmmpknaengjaadoor", sum := "f60b776fbc0ec3a4a3c98f38a9fca9545e87bf10bbc095c09498e8dfe25bfe4b", func := "loop.example/g01206/laws.FnExactFlipPath", spec := "fnExactFlipPath", inPlace := ["internal/bytealg.IndexByteString", "internal/bytealg.IndexString"], unfollowed := true, recurses := true, named := ["unicode/utf8.first", "unicode/utf8.acceptRanges", "internal/bytealg.MaxLen"], apart := false, laid := [("unicode/utf8.acceptRanges", laid_unicode_utf8_acceptRanges), ("unicode/utf8.first", laid_unicode_utf8_first)], narrowed := true }
def FnExactFlipPathUptoSaid : Prop := fnExactFlipPathUptoRow.holds Tryd.pinned (OpenSpec.upto fnExactFlipPathSpec)

/-- 'laws.FnExactShrinkPath', WHERE WHAT IT READS IS OF BULK AT MOST 1048576: true; the input reads as it did. -/
def fnExactShrinkPathUptoRow : OpenClaim := { program := "ytckmmpknaengjaadoor", sum := "f60b776fbc0ec3a4a3c98f38a9fca9545e87bf10bbc095c09498e8dfe25bfe4b", func := "loop.example/g01206/laws.FnExactShrinkPath", spec := "fnExactShrinkPath", inPlace := ["internal/bytealg.IndexByteString", "internal/bytealg.IndexString"], unfollowed := true, recurses := true, named := ["unicode/utf8.first", "unicode/utf8.acceptRanges", "internal/bytealg.MaxLen"], apart := false, laid := [("unicode/utf8.acceptRanges", laid_unicode_utf8_acceptRanges), ("unicode/utf8.first", laid_unicode_utf8_first)], narrowed := true }
def FnExactShrinkPathUptoSaid : Prop := fnExactShrinkPathUptoRow.holds Tryd.pinned (OpenSpec.upto fnExactShrinkPathSpec)

/-- 'laws.FnExactReversePath', WHERE WHAT IT READS IS OF BULK AT MOST 1048576: true; the input reads as it did. -/
def fnExactReversePathUptoRow : OpenClaim := { program := "ytckmmpknaengjaadoor", sum := "f60b776fbc0ec3a4a3c98f38a9fca9545e87bf10bbc095c09498e8dfe25bfe4b", func := "loop.example/g01206/laws.FnExactReversePath", spec := "fnExactReversePath", inPlace := ["internal/bytealg.IndexByteString", "internal/bytealg.IndexString"], unfollowed := true, recurses := true, named := ["unicode/utf8.first", "unicode/utf8.acceptRanges", "internal/bytealg.MaxLen"], apart := false, laid := [("unicode/utf8.acceptRanges", laid_unicode_utf8_acceptRanges), ("unicode/utf8.first", laid_unicode_utf8_first)], narrowed := true }
def FnExactReversePathUptoSaid : Prop := fnExactReversePathUptoRow.holds Tryd.pinned (OpenSpec.upto fnExactReversePathSpec)

/-- 'laws.FnExactPushCorner', WHERE WHAT IT READS IS OF BULK AT MOST 1048576: true; the input reads as it did. -/
def fnExactPushCornerUptoRow : OpenClaim := { program := "ytckmmpknaengjaadoor", sum := "f60b776fbc0ec3a4a3c98f38a9fca9545e87bf10bbc095c09498e8dfe25bfe4b", func := "loop.example/g01206/laws.FnExactPushCorner", spec := "fnExactPushCorner", inPlace := ["internal/bytealg.IndexByteString", "internal/bytealg.IndexString"], unfollowed := true, recurses := true, named := ["unicode/utf8.first", "unicode/utf8.acceptRanges", "internal/bytealg.MaxLen"], apart := false, laid := [("unicode/utf8.acceptRanges", laid_unicode_utf8_acceptRanges), ("unicode/utf8.first", laid_unicode_utf8_first)], narrowed := true }
def FnExactPushCornerUptoSaid : Prop := fnExactPushCornerUptoRow.holds Tryd.pinned (OpenSpec.upto fnExactPushCornerSpec)

/-- 'laws.FnExactTurnsAround', WHERE WHAT IT READS IS OF BULK AT MOST 1048576: true; the input reads as it did. -/
def fnExactTurnsAroundUptoRow : OpenClaim := { program := "ytckmmpknaengjaadoor", sum := "f60b776fbc0ec3a4a3c98f38a9fca9545e87bf10bbc095c09498e8dfe25bfe4b", func := "loop.example/g01206/laws.FnExactTurnsAround", spec := "fnExactTurnsAround", inPlace := ["internal/bytealg.IndexByteString", "internal/bytealg.IndexString"], unfollowed := true, recurses := true, named := ["unicode/utf8.first", "unicode/utf8.acceptRanges", "internal/bytealg.MaxLen"], apart := false, laid := [("unicode/utf8.acceptRanges", laid_unicode_utf8_acceptRanges), ("unicode/utf8.first", laid_unicode_utf8_first)], narrowed := true }
def FnExactTurnsAroundUptoSaid : Prop := fnExactTurnsAroundUptoRow.holds Tryd.pinned (OpenSpec.upto fnExactTurnsAroundSpec)

/-- 'laws.FnExactFreeCorners', WHERE WHAT IT READS IS OF BULK AT MOST 1048576: true; the input reads as it did. -/
def fnExactFreeCornersUptoRow : OpenClaim := { program := "ytckmmpknaengjaadoor", sum := "f60b776fbc0ec3a4a3c98f38a9fca9545e87bf10bbc095c09498e8dfe25bfe4b", func := "loop.example/g01206/laws.FnExactFreeCorners", spec := "fnExactFreeCorners", inPlace := ["internal/bytealg.IndexByteString", "internal/bytealg.IndexString"], unfollowed := true, recurses := true, named := ["unicode/utf8.first", "unicode/utf8.acceptRanges", "internal/bytealg.MaxLen"], apart := false, laid := [("unicode/utf8.acceptRanges", laid_unicode_utf8_acceptRanges), ("unicode/utf8.first", laid_unicode_utf8_first)], narrowed := true }
def FnExactFreeCornersUptoSaid : Prop := fnExactFreeCornersUptoRow.holds Tryd.pinned (OpenSpec.upto fnExactFreeCornersSpec)

end Rows
end Go.Proofs.YtckmmpknaengjaaDoor
