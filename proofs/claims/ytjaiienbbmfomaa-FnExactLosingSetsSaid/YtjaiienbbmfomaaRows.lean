/-
  No cell of these rows narrows 'for every input' (looked for: loops, veiled, ifaces, maps, wideKeys, modest, calm, conditions, laid).
  DERIVED. THE GIVEN ROWS OF THIS SEAT. 12 by the template 'for every input the law returns true; each argument reads behind the call as it read before'; 0 by the template 'total and deterministic' (their statements: YtjaiienbbmfomaaTotals.lean).
  GIVEN WITH THE SEED: the statements are not yours to turn. If you find one false, say at which input.
  Laid BY PROGRAM, IN A SANDBOX (cutbox-rows.mjs): the forced cells as the released guide's own fill.sh prints them over the translation 295d43ec3c134023… (all of the seat's roots in one cut). By AI agents, Wed Nov 11 2026. No macro, syntax, notation, axiom, sorry.
-/
import Derived.Test.YtjaiienbbmfomaaChecked
import GoSem.Claim
import GoSem.ClaimJoined
import GoSem.ClaimMapViews
import Derived.JoinedTies
import Derived.KernelRfl
namespace Go.Proofs.Ytjaiienbbmfomaa
/- THE CELL 'sum', in the pinned program and in every row, IS THE sha256 OF THE DUMP (.gsa) THAT YtjaiienbbmfomaaProg.lean LOADS. Nothing in Lean hashes anything: it is a label: what it is worth is what the hold of that sum in a sandbox is worth. -/
noncomputable def Try.pinned : Pinned := { name := "ytjaiienbbmfomaa", sum := "295d43ec3c13402302e88507ecce8286e3c07db37dfa432821edc130b6ac710a", checked := Try.checked }
namespace Rows
def none {H : Type} : Left H := { results := [], args := [] }

/-- 'laws.FnExactIsGallery': WHATEVER THE INPUT: true; the input reads as it did. -/
def fnExactIsGallerySpec : ChangeSpec := { name := "fnExactIsGallery", fn := fun _ => fun
  | [d] => { results := [.lit (.bool true)], args := [d] }
  | _ => none }
def fnExactIsGalleryRow : OpenClaim := { program := "ytjaiienbbmfomaa", sum := "295d43ec3c13402302e88507ecce8286e3c07db37dfa432821edc130b6ac710a", func := "loop.example/g01206/laws.FnExactIsGallery", spec := "fnExactIsGallery", unfollowed := true, recurses := true, apart := false }
def FnExactIsGallerySaid : Prop := fnExactIsGalleryRow.holds Try.pinned (OpenSpec.ofChange fnExactIsGallerySpec)

/-- ITS FALSE NEIGHBOUR: 'it returns false'. Refute it at one input. -/
def fnExactIsGalleryWrong : ChangeSpec := { name := "fnExactIsGallery", fn := fun _ => fun
  | [d] => { results := [.lit (.bool false)], args := [d] }
  | _ => none }
def FnExactIsGalleryWrongFalsely : Prop := fnExactIsGalleryRow.holds Try.pinned (OpenSpec.ofChange fnExactIsGalleryWrong)

/-- 'laws.FnExactNewGallery': WHATEVER THE INPUT: true; the input reads as it did. -/
def fnExactNewGallerySpec : ChangeSpec := { name := "fnExactNewGallery", fn := fun _ => fun
  | [d] => { results := [.lit (.bool true)], args := [d] }
  | _ => none }
def fnExactNewGalleryRow : OpenClaim := { program := "ytjaiienbbmfomaa", sum := "295d43ec3c13402302e88507ecce8286e3c07db37dfa432821edc130b6ac710a", func := "loop.example/g01206/laws.FnExactNewGallery", spec := "fnExactNewGallery", unfollowed := true, recurses := true, apart := false }
def FnExactNewGallerySaid : Prop := fnExactNewGalleryRow.holds Try.pinned (OpenSpec.ofChange fnExactNewGallerySpec)

/-- ITS FALSE NEIGHBOUR: 'it returns false'. Refute it at one input. -/
def fnExactNewGalleryWrong : ChangeSpec := { name := "fnExactNewGallery", fn := fun _ => fun
  | [d] => { results := [.lit (.bool false)], args := [d] }
  | _ => none }
def FnExactNewGalleryWrongFalsely : Prop := fnExactNewGalleryRow.holds Try.pinned (OpenSpec.ofChange fnExactNewGalleryWrong)

/-- 'laws.FnExactNewConsole': WHATEVER THE INPUT: true; the input reads as it did. -/
def fnExactNewConsoleSpec : ChangeSpec := { name := "fnExactNewConsole", fn := fun _ => fun
  | [d] => { results := [.lit (.bool true)], args := [d] }
  | _ => none }
def fnExactNewConsoleRow : OpenClaim := { program := "ytjaiienbbmfomaa", sum := "295d43ec3c13402302e88507ecce8286e3c07db37dfa432821edc130b6ac710a", func := "loop.example/g01206/laws.FnExactNewConsole", spec := "fnExactNewConsole", unfollowed := true, recurses := true, apart := false }
def FnExactNewConsoleSaid : Prop := fnExactNewConsoleRow.holds Try.pinned (OpenSpec.ofChange fnExactNewConsoleSpec)

/-- ITS FALSE NEIGHBOUR: 'it returns false'. Refute it at one input. -/
def fnExactNewConsoleWrong : ChangeSpec := { name := "fnExactNewConsole", fn := fun _ => fun
  | [d] => { results := [.lit (.bool false)], args := [d] }
  | _ => none }
def FnExactNewConsoleWrongFalsely : Prop := fnExactNewConsoleRow.holds Try.pinned (OpenSpec.ofChange fnExactNewConsoleWrong)

/-- 'laws.FnExactPictureOf': WHATEVER THE INPUT: true; the input reads as it did. -/
def fnExactPictureOfSpec : ChangeSpec := { name := "fnExactPictureOf", fn := fun _ => fun
  | [d] => { results := [.lit (.bool true)], args := [d] }
  | _ => none }
def fnExactPictureOfRow : OpenClaim := { program := "ytjaiienbbmfomaa", sum := "295d43ec3c13402302e88507ecce8286e3c07db37dfa432821edc130b6ac710a", func := "loop.example/g01206/laws.FnExactPictureOf", spec := "fnExactPictureOf", unfollowed := true, recurses := true, apart := false }
def FnExactPictureOfSaid : Prop := fnExactPictureOfRow.holds Try.pinned (OpenSpec.ofChange fnExactPictureOfSpec)

/-- ITS FALSE NEIGHBOUR: 'it returns false'. Refute it at one input. -/
def fnExactPictureOfWrong : ChangeSpec := { name := "fnExactPictureOf", fn := fun _ => fun
  | [d] => { results := [.lit (.bool false)], args := [d] }
  | _ => none }
def FnExactPictureOfWrongFalsely : Prop := fnExactPictureOfRow.holds Try.pinned (OpenSpec.ofChange fnExactPictureOfWrong)

/-- 'laws.FnExactDoWork': WHATEVER THE INPUT: true; the input reads as it did. -/
def fnExactDoWorkSpec : ChangeSpec := { name := "fnExactDoWork", fn := fun _ => fun
  | [d1, d2] => { results := [.lit (.bool true)], args := [d1, d2] }
  | _ => none }
def fnExactDoWorkRow : OpenClaim := { program := "ytjaiienbbmfomaa", sum := "295d43ec3c13402302e88507ecce8286e3c07db37dfa432821edc130b6ac710a", func := "loop.example/g01206/laws.FnExactDoWork", spec := "fnExactDoWork", unfollowed := true, recurses := true, apart := false }
def FnExactDoWorkSaid : Prop := fnExactDoWorkRow.holds Try.pinned (OpenSpec.ofChange fnExactDoWorkSpec)

/-- ITS FALSE NEIGHBOUR: 'it returns false'. Refute it at one input. -/
def fnExactDoWorkWrong : ChangeSpec := { name := "fnExactDoWork", fn := fun _ => fun
  | [d1, d2] => { results := [.lit (.bool false)], args := [d1, d2] }
  | _ => none }
def FnExactDoWorkWrongFalsely : Prop := fnExactDoWorkRow.holds Try.pinned (OpenSpec.ofChange fnExactDoWorkWrong)

/-- 'laws.FnExactDoWorks': WHATEVER THE INPUT: true; the input reads as it did. -/
def fnExactDoWorksSpec : ChangeSpec := { name := "fnExactDoWorks", fn := fun _ => fun
  | [d1, d2] => { results := [.lit (.bool true)], args := [d1, d2] }
  | _ => none }
def fnExactDoWorksRow : OpenClaim := { program := "ytjaiienbbmfomaa", sum := "295d43ec3c13402302e88507ecce8286e3c07db37dfa432821edc130b6ac710a", func := "loop.example/g01206/laws.FnExactDoWorks", spec := "fnExactDoWorks", unfollowed := true, recurses := true, apart := false }
def FnExactDoWorksSaid : Prop := fnExactDoWorksRow.holds Try.pinned (OpenSpec.ofChange fnExactDoWorksSpec)

/-- ITS FALSE NEIGHBOUR: 'it returns false'. Refute it at one input. -/
def fnExactDoWorksWrong : ChangeSpec := { name := "fnExactDoWorks", fn := fun _ => fun
  | [d1, d2] => { results := [.lit (.bool false)], args := [d1, d2] }
  | _ => none }
def FnExactDoWorksWrongFalsely : Prop := fnExactDoWorksRow.holds Try.pinned (OpenSpec.ofChange fnExactDoWorksWrong)

/-- 'laws.FnExactKeepMoves': WHATEVER THE INPUT: true; the input reads as it did. -/
def fnExactKeepMovesSpec : ChangeSpec := { name := "fnExactKeepMoves", fn := fun _ => fun
  | [d1, d2, d3] => { results := [.lit (.bool true)], args := [d1, d2, d3] }
  | _ => none }
def fnExactKeepMovesRow : OpenClaim := { program := "ytjaiienbbmfomaa", sum := "295d43ec3c13402302e88507ecce8286e3c07db37dfa432821edc130b6ac710a", func := "loop.example/g01206/laws.FnExactKeepMoves", spec := "fnExactKeepMoves", unfollowed := true, recurses := true, apart := false }
def FnExactKeepMovesSaid : Prop := fnExactKeepMovesRow.holds Try.pinned (OpenSpec.ofChange fnExactKeepMovesSpec)

/-- ITS FALSE NEIGHBOUR: 'it returns false'. Refute it at one input. -/
def fnExactKeepMovesWrong : ChangeSpec := { name := "fnExactKeepMoves", fn := fun _ => fun
  | [d1, d2, d3] => { results := [.lit (.bool false)], args := [d1, d2, d3] }
  | _ => none }
def FnExactKeepMovesWrongFalsely : Prop := fnExactKeepMovesRow.holds Try.pinned (OpenSpec.ofChange fnExactKeepMovesWrong)

/-- 'laws.FnExactKeepNumber': WHATEVER THE INPUT: true; the input reads as it did. -/
def fnExactKeepNumberSpec : ChangeSpec := { name := "fnExactKeepNumber", fn := fun _ => fun
  | [d1, d2, d3] => { results := [.lit (.bool true)], args := [d1, d2, d3] }
  | _ => none }
def fnExactKeepNumberRow : OpenClaim := { program := "ytjaiienbbmfomaa", sum := "295d43ec3c13402302e88507ecce8286e3c07db37dfa432821edc130b6ac710a", func := "loop.example/g01206/laws.FnExactKeepNumber", spec := "fnExactKeepNumber", unfollowed := true, recurses := true, apart := false }
def FnExactKeepNumberSaid : Prop := fnExactKeepNumberRow.holds Try.pinned (OpenSpec.ofChange fnExactKeepNumberSpec)

/-- ITS FALSE NEIGHBOUR: 'it returns false'. Refute it at one input. -/
def fnExactKeepNumberWrong : ChangeSpec := { name := "fnExactKeepNumber", fn := fun _ => fun
  | [d1, d2, d3] => { results := [.lit (.bool false)], args := [d1, d2, d3] }
  | _ => none }
def FnExactKeepNumberWrongFalsely : Prop := fnExactKeepNumberRow.holds Try.pinned (OpenSpec.ofChange fnExactKeepNumberWrong)

/-- 'laws.FnExactLosingSets': WHATEVER THE INPUT: true; the input reads as it did. -/
def fnExactLosingSetsSpec : ChangeSpec := { name := "fnExactLosingSets", fn := fun _ => fun
  | [d1, d2, d3] => { results := [.lit (.bool true)], args := [d1, d2, d3] }
  | _ => none }
def fnExactLosingSetsRow : OpenClaim := { program := "ytjaiienbbmfomaa", sum := "295d43ec3c13402302e88507ecce8286e3c07db37dfa432821edc130b6ac710a", func := "loop.example/g01206/laws.FnExactLosingSets", spec := "fnExactLosingSets", unfollowed := true, recurses := true, apart := false }
def FnExactLosingSetsSaid : Prop := fnExactLosingSetsRow.holds Try.pinned (OpenSpec.ofChange fnExactLosingSetsSpec)

/-- ITS FALSE NEIGHBOUR: 'it returns false'. Refute it at one input. -/
def fnExactLosingSetsWrong : ChangeSpec := { name := "fnExactLosingSets", fn := fun _ => fun
  | [d1, d2, d3] => { results := [.lit (.bool false)], args := [d1, d2, d3] }
  | _ => none }
def FnExactLosingSetsWrongFalsely : Prop := fnExactLosingSetsRow.holds Try.pinned (OpenSpec.ofChange fnExactLosingSetsWrong)

/-- 'laws.FnExactMeanGame': WHATEVER THE INPUT: true; the input reads as it did. -/
def fnExactMeanGameSpec : ChangeSpec := { name := "fnExactMeanGame", fn := fun _ => fun
  | [d1, d2, d3] => { results := [.lit (.bool true)], args := [d1, d2, d3] }
  | _ => none }
def fnExactMeanGameRow : OpenClaim := { program := "ytjaiienbbmfomaa", sum := "295d43ec3c13402302e88507ecce8286e3c07db37dfa432821edc130b6ac710a", func := "loop.example/g01206/laws.FnExactMeanGame", spec := "fnExactMeanGame", unfollowed := true, recurses := true, apart := false }
def FnExactMeanGameSaid : Prop := fnExactMeanGameRow.holds Try.pinned (OpenSpec.ofChange fnExactMeanGameSpec)

/-- ITS FALSE NEIGHBOUR: 'it returns false'. Refute it at one input. -/
def fnExactMeanGameWrong : ChangeSpec := { name := "fnExactMeanGame", fn := fun _ => fun
  | [d1, d2, d3] => { results := [.lit (.bool false)], args := [d1, d2, d3] }
  | _ => none }
def FnExactMeanGameWrongFalsely : Prop := fnExactMeanGameRow.holds Try.pinned (OpenSpec.ofChange fnExactMeanGameWrong)

/-- 'laws.FnExactChanceOdd': WHATEVER THE INPUT: true; the input reads as it did. -/
def fnExactChanceOddSpec : ChangeSpec := { name := "fnExactChanceOdd", fn := fun _ => fun
  | [d1, d2, d3] => { results := [.lit (.bool true)], args := [d1, d2, d3] }
  | _ => none }
def fnExactChanceOddRow : OpenClaim := { program := "ytjaiienbbmfomaa", sum := "295d43ec3c13402302e88507ecce8286e3c07db37dfa432821edc130b6ac710a", func := "loop.example/g01206/laws.FnExactChanceOdd", spec := "fnExactChanceOdd", unfollowed := true, recurses := true, apart := false }
def FnExactChanceOddSaid : Prop := fnExactChanceOddRow.holds Try.pinned (OpenSpec.ofChange fnExactChanceOddSpec)

/-- ITS FALSE NEIGHBOUR: 'it returns false'. Refute it at one input. -/
def fnExactChanceOddWrong : ChangeSpec := { name := "fnExactChanceOdd", fn := fun _ => fun
  | [d1, d2, d3] => { results := [.lit (.bool false)], args := [d1, d2, d3] }
  | _ => none }
def FnExactChanceOddWrongFalsely : Prop := fnExactChanceOddRow.holds Try.pinned (OpenSpec.ofChange fnExactChanceOddWrong)

/-- 'laws.FnGalleries': WHATEVER THE INPUT: true; the input reads as it did. -/
def fnGalleriesSpec : ChangeSpec := { name := "fnGalleries", fn := fun _ => fun
  | [d] => { results := [.lit (.bool true)], args := [d] }
  | _ => none }
def fnGalleriesRow : OpenClaim := { program := "ytjaiienbbmfomaa", sum := "295d43ec3c13402302e88507ecce8286e3c07db37dfa432821edc130b6ac710a", func := "loop.example/g01206/laws.FnGalleries", spec := "fnGalleries", unfollowed := true, recurses := true, apart := false }
def FnGalleriesSaid : Prop := fnGalleriesRow.holds Try.pinned (OpenSpec.ofChange fnGalleriesSpec)

/-- ITS FALSE NEIGHBOUR: 'it returns false'. Refute it at one input. -/
def fnGalleriesWrong : ChangeSpec := { name := "fnGalleries", fn := fun _ => fun
  | [d] => { results := [.lit (.bool false)], args := [d] }
  | _ => none }
def FnGalleriesWrongFalsely : Prop := fnGalleriesRow.holds Try.pinned (OpenSpec.ofChange fnGalleriesWrong)

/- THE SECOND FORM. 'bulk': how many values and letters a reading holds, each counted each time it is reached (what is shared counts as often as it is met; a slice's spare places count too). A statement '..UptoSaid' is the law's where the arguments, and the package variables that the reading takes, are together of bulk at most 1048576: NARROWER than '..Said'. Prove '..Said' where nothing that the law and all that it calls make is longer than what came in: it says more and counts as full. Else prove '..UptoSaid'. A law counts once. -/
mutual
def uptoBulk {H : Type} : DataW H → Nat
  | .lit (.string bytes) => bytes.length + 1
  | .lit _ => 1
  | .nil => 1
  | .ptr d => uptoBulk d + 1
  | .slice elems spare => uptoBulkAll elems + uptoBulkAll spare + 1
  | .agg parts => uptoBulkAll parts + 1
  | .iface _ d => uptoBulk d + 1
  | .map entries => uptoBulkEntries entries + 1
  | .held _ => 1
def uptoBulkAll {H : Type} : List (DataW H) → Nat
  | [] => 0
  | d :: r => uptoBulk d + uptoBulkAll r
def uptoBulkEntries {H : Type} : List (Lit × DataW H) → Nat
  | [] => 0
  | x :: r => uptoBulkEntry x + uptoBulkEntries r
def uptoBulkEntry {H : Type} : Lit × DataW H → Nat
  | (.string bytes, d) => bytes.length + uptoBulk d + 1
  | (_, d) => uptoBulk d + 1
 end
def uptoSmall : (H : Type) → List (DataW H) → Bool := fun _ ds => decide (uptoBulkAll ds ≤ 1048576)
def OpenSpec.upto (s : _root_.Go.ChangeSpec) : _root_.Go.OpenSpec := { _root_.Go.OpenSpec.ofChange s with cond := some uptoSmall }

/-- 'laws.FnExactIsGallery', WHERE WHAT IT READS IS OF BULK AT MOST 1048576: true; the input reads as it did. -/
def fnExactIsGalleryUptoRow : OpenClaim := { program := "ytjaiienbbmfomaa", sum := "295d43ec3c13402302e88507ecce8286e3c07db37dfa432821edc130b6ac710a", func := "loop.example/g01206/laws.FnExactIsGallery", spec := "fnExactIsGallery", unfollowed := true, recurses := true, apart := false, narrowed := true }
def FnExactIsGalleryUptoSaid : Prop := fnExactIsGalleryUptoRow.holds Try.pinned (OpenSpec.upto fnExactIsGallerySpec)

/-- 'laws.FnExactNewGallery', WHERE WHAT IT READS IS OF BULK AT MOST 1048576: true; the input reads as it did. -/
def fnExactNewGalleryUptoRow : OpenClaim := { program := "ytjaiienbbmfomaa", sum := "295d43ec3c13402302e88507ecce8286e3c07db37dfa432821edc130b6ac710a", func := "loop.example/g01206/laws.FnExactNewGallery", spec := "fnExactNewGallery", unfollowed := true, recurses := true, apart := false, narrowed := true }
def FnExactNewGalleryUptoSaid : Prop := fnExactNewGalleryUptoRow.holds Try.pinned (OpenSpec.upto fnExactNewGallerySpec)

/-- 'laws.FnExactNewConsole', WHERE WHAT IT READS IS OF BULK AT MOST 1048576: true; the input reads as it did. -/
def fnExactNewConsoleUptoRow : OpenClaim := { program := "ytjaiienbbmfomaa", sum := "295d43ec3c13402302e88507ecce8286e3c07db37dfa432821edc130b6ac710a", func := "loop.example/g01206/laws.FnExactNewConsole", spec := "fnExactNewConsole", unfollowed := true, recurses := true, apart := false, narrowed := true }
def FnExactNewConsoleUptoSaid : Prop := fnExactNewConsoleUptoRow.holds Try.pinned (OpenSpec.upto fnExactNewConsoleSpec)

/-- 'laws.FnExactPictureOf', WHERE WHAT IT READS IS OF BULK AT MOST 1048576: true; the input reads as it did. -/
def fnExactPictureOfUptoRow : OpenClaim := { program := "ytjaiienbbmfomaa", sum := "295d43ec3c13402302e88507ecce8286e3c07db37dfa432821edc130b6ac710a", func := "loop.example/g01206/laws.FnExactPictureOf", spec := "fnExactPictureOf", unfollowed := true, recurses := true, apart := false, narrowed := true }
def FnExactPictureOfUptoSaid : Prop := fnExactPictureOfUptoRow.holds Try.pinned (OpenSpec.upto fnExactPictureOfSpec)

/-- 'laws.FnExactDoWork', WHERE WHAT IT READS IS OF BULK AT MOST 1048576: true; the input reads as it did. -/
def fnExactDoWorkUptoRow : OpenClaim := { program := "ytjaiienbbmfomaa", sum := "295d43ec3c13402302e88507ecce8286e3c07db37dfa432821edc130b6ac710a", func := "loop.example/g01206/laws.FnExactDoWork", spec := "fnExactDoWork", unfollowed := true, recurses := true, apart := false, narrowed := true }
def FnExactDoWorkUptoSaid : Prop := fnExactDoWorkUptoRow.holds Try.pinned (OpenSpec.upto fnExactDoWorkSpec)

/-- 'laws.FnExactDoWorks', WHERE WHAT IT READS IS OF BULK AT MOST 1048576: true; the input reads as it did. -/
def fnExactDoWorksUptoRow : OpenClaim := { program := "ytjaiienbbmfomaa", sum := "295d43ec3c13402302e88507ecce8286e3c07db37dfa432821edc130b6ac710a", func := "loop.example/g01206/laws.FnExactDoWorks", spec := "fnExactDoWorks", unfollowed := true, recurses := true, apart := false, narrowed := true }
def FnExactDoWorksUptoSaid : Prop := fnExactDoWorksUptoRow.holds Try.pinned (OpenSpec.upto fnExactDoWorksSpec)

/-- 'laws.FnExactKeepMoves', WHERE WHAT IT READS IS OF BULK AT MOST 1048576: true; the input reads as it did. -/
def fnExactKeepMovesUptoRow : OpenClaim := { program := "ytjaiienbbmfomaa", sum := "295d43ec3c13402302e88507ecce8286e3c07db37dfa432821edc130b6ac710a", func := "loop.example/g01206/laws.FnExactKeepMoves", spec := "fnExactKeepMoves", unfollowed := true, recurses := true, apart := false, narrowed := true }
def FnExactKeepMovesUptoSaid : Prop := fnExactKeepMovesUptoRow.holds Try.pinned (OpenSpec.upto fnExactKeepMovesSpec)

/-- 'laws.FnExactKeepNumber', WHERE WHAT IT READS IS OF BULK AT MOST 1048576: true; the input reads as it did. -/
def fnExactKeepNumberUptoRow : OpenClaim := { program := "ytjaiienbbmfomaa", sum := "295d43ec3c13402302e88507ecce8286e3c07db37dfa432821edc130b6ac710a", func := "loop.example/g01206/laws.FnExactKeepNumber", spec := "fnExactKeepNumber", unfollowed := true, recurses := true, apart := false, narrowed := true }
def FnExactKeepNumberUptoSaid : Prop := fnExactKeepNumberUptoRow.holds Try.pinned (OpenSpec.upto fnExactKeepNumberSpec)

/-- 'laws.FnExactLosingSets', WHERE WHAT IT READS IS OF BULK AT MOST 1048576: true; the input reads as it did. -/
def fnExactLosingSetsUptoRow : OpenClaim := { program := "ytjaiienbbmfomaa", sum := "295d43ec3c13402302e88507ecce8286e3c07db37dfa432821edc130b6ac710a", func := "loop.example/g01206/laws.FnExactLosingSets", spec := "fnExactLosingSets", unfollowed := true, recurses := true, apart := false, narrowed := true }
def FnExactLosingSetsUptoSaid : Prop := fnExactLosingSetsUptoRow.holds Try.pinned (OpenSpec.upto fnExactLosingSetsSpec)

/-- 'laws.FnExactMeanGame', WHERE WHAT IT READS IS OF BULK AT MOST 1048576: true; the input reads as it did. -/
def fnExactMeanGameUptoRow : OpenClaim := { program := "ytjaiienbbmfomaa", sum := "295d43ec3c13402302e88507ecce8286e3c07db37dfa432821edc130b6ac710a", func := "loop.example/g01206/laws.FnExactMeanGame", spec := "fnExactMeanGame", unfollowed := true, recurses := true, apart := false, narrowed := true }
def FnExactMeanGameUptoSaid : Prop := fnExactMeanGameUptoRow.holds Try.pinned (OpenSpec.upto fnExactMeanGameSpec)

/-- 'laws.FnExactChanceOdd', WHERE WHAT IT READS IS OF BULK AT MOST 1048576: true; the input reads as it did. -/
def fnExactChanceOddUptoRow : OpenClaim := { program := "ytjaiienbbmfomaa", sum := "295d43ec3c13402302e88507ecce8286e3c07db37dfa432821edc130b6ac710a", func := "loop.example/g01206/laws.FnExactChanceOdd", spec := "fnExactChanceOdd", unfollowed := true, recurses := true, apart := false, narrowed := true }
def FnExactChanceOddUptoSaid : Prop := fnExactChanceOddUptoRow.holds Try.pinned (OpenSpec.upto fnExactChanceOddSpec)

/-- 'laws.FnGalleries', WHERE WHAT IT READS IS OF BULK AT MOST 1048576: true; the input reads as it did. -/
def fnGalleriesUptoRow : OpenClaim := { program := "ytjaiienbbmfomaa", sum := "295d43ec3c13402302e88507ecce8286e3c07db37dfa432821edc130b6ac710a", func := "loop.example/g01206/laws.FnGalleries", spec := "fnGalleries", unfollowed := true, recurses := true, apart := false, narrowed := true }
def FnGalleriesUptoSaid : Prop := fnGalleriesUptoRow.holds Try.pinned (OpenSpec.upto fnGalleriesSpec)

end Rows
end Go.Proofs.Ytjaiienbbmfomaa
