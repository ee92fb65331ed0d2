/-
  No cell of these rows narrows 'for every input' (looked for: loops, veiled, ifaces, maps, wideKeys, modest, calm, conditions, laid).
  DERIVED. THE GIVEN ROWS OF THIS SEAT. 12 by the template 'for every input the law returns true; each argument reads behind the call as it read before'; 0 by the template 'total and deterministic' (their statements: YtgifhmjbmnopcaaTotals.lean).
  GIVEN WITH THE SEED: the statements are not yours to turn. If you find one false, say at which input.
  Laid BY PROGRAM, IN A SANDBOX (cutbox-rows.mjs): the forced cells as the released guide's own fill.sh prints them over the translation 9153f5bdd5eac774… (all of the seat's roots in one cut). By AI agents, Wed Nov 11 2026. No macro, syntax, notation, axiom, sorry.
-/
import Derived.Test.YtgifhmjbmnopcaaChecked
import GoSem.Claim
import GoSem.ClaimJoined
import GoSem.ClaimMapViews
import Derived.JoinedTies
import Derived.KernelRfl
namespace Go.Proofs.Ytgifhmjbmnopcaa
/- THE CELL 'sum', in the pinned program and in every row, IS THE sha256 OF THE DUMP (.gsa) THAT YtgifhmjbmnopcaaProg.lean LOADS. Nothing in Lean hashes anything: it is a label: what it is worth is what the hold of that sum in a sandbox is worth. -/
noncomputable def Try.pinned : Pinned := { name := "ytgifhmjbmnopcaa", sum := "9153f5bdd5eac77427d43d7d68d9b212be449139494b0ec4c199ed525a2071d4", checked := Try.checked }
namespace Rows
def none {H : Type} : Left H := { results := [], args := [] }

/-- 'laws.FnExactCutsOf': WHATEVER THE INPUT: true; the input reads as it did. -/
def fnExactCutsOfSpec : ChangeSpec := { name := "fnExactCutsOf", fn := fun _ => fun
  | [d] => { results := [.lit (.bool true)], args := [d] }
  | _ => none }
def fnExactCutsOfRow : OpenClaim := { program := "ytgifhmjbmnopcaa", sum := "9153f5bdd5eac77427d43d7d68d9b212be449139494b0ec4c199ed525a2071d4", func := "loop.example/g01206/laws.FnExactCutsOf", spec := "fnExactCutsOf", unfollowed := true, recurses := true, apart := false }
def FnExactCutsOfSaid : Prop := fnExactCutsOfRow.holds Try.pinned (OpenSpec.ofChange fnExactCutsOfSpec)

/-- ITS FALSE NEIGHBOUR: 'it returns false'. Refute it at one input. -/
def fnExactCutsOfWrong : ChangeSpec := { name := "fnExactCutsOf", fn := fun _ => fun
  | [d] => { results := [.lit (.bool false)], args := [d] }
  | _ => none }
def FnExactCutsOfWrongFalsely : Prop := fnExactCutsOfRow.holds Try.pinned (OpenSpec.ofChange fnExactCutsOfWrong)

/-- 'laws.FnExactMakeCut': WHATEVER THE INPUT: true; the input reads as it did. -/
def fnExactMakeCutSpec : ChangeSpec := { name := "fnExactMakeCut", fn := fun _ => fun
  | [d1, d2] => { results := [.lit (.bool true)], args := [d1, d2] }
  | _ => none }
def fnExactMakeCutRow : OpenClaim := { program := "ytgifhmjbmnopcaa", sum := "9153f5bdd5eac77427d43d7d68d9b212be449139494b0ec4c199ed525a2071d4", func := "loop.example/g01206/laws.FnExactMakeCut", spec := "fnExactMakeCut", unfollowed := true, recurses := true, apart := false }
def FnExactMakeCutSaid : Prop := fnExactMakeCutRow.holds Try.pinned (OpenSpec.ofChange fnExactMakeCutSpec)

/-- ITS FALSE NEIGHBOUR: 'it returns false'. Refute it at one input. -/
def fnExactMakeCutWrong : ChangeSpec := { name := "fnExactMakeCut", fn := fun _ => fun
  | [d1, d2] => { results := [.lit (.bool false)], args := [d1, d2] }
  | _ => none }
def FnExactMakeCutWrongFalsely : Prop := fnExactMakeCutRow.holds Try.pinned (OpenSpec.ofChange fnExactMakeCutWrong)

/-- 'laws.FnExactIsProof': WHATEVER THE INPUT: true; the input reads as it did. -/
def fnExactIsProofSpec : ChangeSpec := { name := "fnExactIsProof", fn := fun _ => fun
  | [d1, d2] => { results := [.lit (.bool true)], args := [d1, d2] }
  | _ => none }
def fnExactIsProofRow : OpenClaim := { program := "ytgifhmjbmnopcaa", sum := "9153f5bdd5eac77427d43d7d68d9b212be449139494b0ec4c199ed525a2071d4", func := "loop.example/g01206/laws.FnExactIsProof", spec := "fnExactIsProof", unfollowed := true, recurses := true, apart := false }
def FnExactIsProofSaid : Prop := fnExactIsProofRow.holds Try.pinned (OpenSpec.ofChange fnExactIsProofSpec)

/-- ITS FALSE NEIGHBOUR: 'it returns false'. Refute it at one input. -/
def fnExactIsProofWrong : ChangeSpec := { name := "fnExactIsProof", fn := fun _ => fun
  | [d1, d2] => { results := [.lit (.bool false)], args := [d1, d2] }
  | _ => none }
def FnExactIsProofWrongFalsely : Prop := fnExactIsProofRow.holds Try.pinned (OpenSpec.ofChange fnExactIsProofWrong)

/-- 'laws.FnExactIsPairing': WHATEVER THE INPUT: true; the input reads as it did. -/
def fnExactIsPairingSpec : ChangeSpec := { name := "fnExactIsPairing", fn := fun _ => fun
  | [d1, d2] => { results := [.lit (.bool true)], args := [d1, d2] }
  | _ => none }
def fnExactIsPairingRow : OpenClaim := { program := "ytgifhmjbmnopcaa", sum := "9153f5bdd5eac77427d43d7d68d9b212be449139494b0ec4c199ed525a2071d4", func := "loop.example/g01206/laws.FnExactIsPairing", spec := "fnExactIsPairing", unfollowed := true, recurses := true, apart := false }
def FnExactIsPairingSaid : Prop := fnExactIsPairingRow.holds Try.pinned (OpenSpec.ofChange fnExactIsPairingSpec)

/-- ITS FALSE NEIGHBOUR: 'it returns false'. Refute it at one input. -/
def fnExactIsPairingWrong : ChangeSpec := { name := "fnExactIsPairing", fn := fun _ => fun
  | [d1, d2] => { results := [.lit (.bool false)], args := [d1, d2] }
  | _ => none }
def FnExactIsPairingWrongFalsely : Prop := fnExactIsPairingRow.holds Try.pinned (OpenSpec.ofChange fnExactIsPairingWrong)

/-- 'laws.FnExactCountPairings': WHATEVER THE INPUT: true; the input reads as it did. -/
def fnExactCountPairingsSpec : ChangeSpec := { name := "fnExactCountPairings", fn := fun _ => fun
  | [d] => { results := [.lit (.bool true)], args := [d] }
  | _ => none }
def fnExactCountPairingsRow : OpenClaim := { program := "ytgifhmjbmnopcaa", sum := "9153f5bdd5eac77427d43d7d68d9b212be449139494b0ec4c199ed525a2071d4", func := "loop.example/g01206/laws.FnExactCountPairings", spec := "fnExactCountPairings", unfollowed := true, recurses := true, apart := false }
def FnExactCountPairingsSaid : Prop := fnExactCountPairingsRow.holds Try.pinned (OpenSpec.ofChange fnExactCountPairingsSpec)

/-- ITS FALSE NEIGHBOUR: 'it returns false'. Refute it at one input. -/
def fnExactCountPairingsWrong : ChangeSpec := { name := "fnExactCountPairings", fn := fun _ => fun
  | [d] => { results := [.lit (.bool false)], args := [d] }
  | _ => none }
def FnExactCountPairingsWrongFalsely : Prop := fnExactCountPairingsRow.holds Try.pinned (OpenSpec.ofChange fnExactCountPairingsWrong)

/-- 'laws.FnExactCountProofs': WHATEVER THE INPUT: true; the input reads as it did. -/
def fnExactCountProofsSpec : ChangeSpec := { name := "fnExactCountProofs", fn := fun _ => fun
  | [d] => { results := [.lit (.bool true)], args := [d] }
  | _ => none }
def fnExactCountProofsRow : OpenClaim := { program := "ytgifhmjbmnopcaa", sum := "9153f5bdd5eac77427d43d7d68d9b212be449139494b0ec4c199ed525a2071d4", func := "loop.example/g01206/laws.FnExactCountProofs", spec := "fnExactCountProofs", unfollowed := true, recurses := true, apart := false }
def FnExactCountProofsSaid : Prop := fnExactCountProofsRow.holds Try.pinned (OpenSpec.ofChange fnExactCountProofsSpec)

/-- ITS FALSE NEIGHBOUR: 'it returns false'. Refute it at one input. -/
def fnExactCountProofsWrong : ChangeSpec := { name := "fnExactCountProofs", fn := fun _ => fun
  | [d] => { results := [.lit (.bool false)], args := [d] }
  | _ => none }
def FnExactCountProofsWrongFalsely : Prop := fnExactCountProofsRow.holds Try.pinned (OpenSpec.ofChange fnExactCountProofsWrong)

/-- 'laws.FnExactFirstProof': WHATEVER THE INPUT: true; the input reads as it did. -/
def fnExactFirstProofSpec : ChangeSpec := { name := "fnExactFirstProof", fn := fun _ => fun
  | [d] => { results := [.lit (.bool true)], args := [d] }
  | _ => none }
def fnExactFirstProofRow : OpenClaim := { program := "ytgifhmjbmnopcaa", sum := "9153f5bdd5eac77427d43d7d68d9b212be449139494b0ec4c199ed525a2071d4", func := "loop.example/g01206/laws.FnExactFirstProof", spec := "fnExactFirstProof", unfollowed := true, recurses := true, apart := false }
def FnExactFirstProofSaid : Prop := fnExactFirstProofRow.holds Try.pinned (OpenSpec.ofChange fnExactFirstProofSpec)

/-- ITS FALSE NEIGHBOUR: 'it returns false'. Refute it at one input. -/
def fnExactFirstProofWrong : ChangeSpec := { name := "fnExactFirstProof", fn := fun _ => fun
  | [d] => { results := [.lit (.bool false)], args := [d] }
  | _ => none }
def FnExactFirstProofWrongFalsely : Prop := fnExactFirstProofRow.holds Try.pinned (OpenSpec.ofChange fnExactFirstProofWrong)

/-- 'laws.FnExactLastProof': WHATEVER THE INPUT: true; the input reads as it did. -/
def fnExactLastProofSpec : ChangeSpec := { name := "fnExactLastProof", fn := fun _ => fun
  | [d] => { results := [.lit (.bool true)], args := [d] }
  | _ => none }
def fnExactLastProofRow : OpenClaim := { program := "ytgifhmjbmnopcaa", sum := "9153f5bdd5eac77427d43d7d68d9b212be449139494b0ec4c199ed525a2071d4", func := "loop.example/g01206/laws.FnExactLastProof", spec := "fnExactLastProof", unfollowed := true, recurses := true, apart := false }
def FnExactLastProofSaid : Prop := fnExactLastProofRow.holds Try.pinned (OpenSpec.ofChange fnExactLastProofSpec)

/-- ITS FALSE NEIGHBOUR: 'it returns false'. Refute it at one input. -/
def fnExactLastProofWrong : ChangeSpec := { name := "fnExactLastProof", fn := fun _ => fun
  | [d] => { results := [.lit (.bool false)], args := [d] }
  | _ => none }
def FnExactLastProofWrongFalsely : Prop := fnExactLastProofRow.holds Try.pinned (OpenSpec.ofChange fnExactLastProofWrong)

/-- 'laws.FnExactPairingOf': WHATEVER THE INPUT: true; the input reads as it did. -/
def fnExactPairingOfSpec : ChangeSpec := { name := "fnExactPairingOf", fn := fun _ => fun
  | [d] => { results := [.lit (.bool true)], args := [d] }
  | _ => none }
def fnExactPairingOfRow : OpenClaim := { program := "ytgifhmjbmnopcaa", sum := "9153f5bdd5eac77427d43d7d68d9b212be449139494b0ec4c199ed525a2071d4", func := "loop.example/g01206/laws.FnExactPairingOf", spec := "fnExactPairingOf", unfollowed := true, recurses := true, apart := false }
def FnExactPairingOfSaid : Prop := fnExactPairingOfRow.holds Try.pinned (OpenSpec.ofChange fnExactPairingOfSpec)

/-- ITS FALSE NEIGHBOUR: 'it returns false'. Refute it at one input. -/
def fnExactPairingOfWrong : ChangeSpec := { name := "fnExactPairingOf", fn := fun _ => fun
  | [d] => { results := [.lit (.bool false)], args := [d] }
  | _ => none }
def FnExactPairingOfWrongFalsely : Prop := fnExactPairingOfRow.holds Try.pinned (OpenSpec.ofChange fnExactPairingOfWrong)

/-- 'laws.FnExactPairingOfProof': WHATEVER THE INPUT: true; the input reads as it did. -/
def fnExactPairingOfProofSpec : ChangeSpec := { name := "fnExactPairingOfProof", fn := fun _ => fun
  | [d1, d2] => { results := [.lit (.bool true)], args := [d1, d2] }
  | _ => none }
def fnExactPairingOfProofRow : OpenClaim := { program := "ytgifhmjbmnopcaa", sum := "9153f5bdd5eac77427d43d7d68d9b212be449139494b0ec4c199ed525a2071d4", func := "loop.example/g01206/laws.FnExactPairingOfProof", spec := "fnExactPairingOfProof", unfollowed := true, recurses := true, apart := false }
def FnExactPairingOfProofSaid : Prop := fnExactPairingOfProofRow.holds Try.pinned (OpenSpec.ofChange fnExactPairingOfProofSpec)

/-- ITS FALSE NEIGHBOUR: 'it returns false'. Refute it at one input. -/
def fnExactPairingOfProofWrong : ChangeSpec := { name := "fnExactPairingOfProof", fn := fun _ => fun
  | [d1, d2] => { results := [.lit (.bool false)], args := [d1, d2] }
  | _ => none }
def FnExactPairingOfProofWrongFalsely : Prop := fnExactPairingOfProofRow.holds Try.pinned (OpenSpec.ofChange fnExactPairingOfProofWrong)

/-- 'laws.FnExactLeastLetters': WHATEVER THE INPUT: true; the input reads as it did. -/
def fnExactLeastLettersSpec : ChangeSpec := { name := "fnExactLeastLetters", fn := fun _ => fun
  | [d] => { results := [.lit (.bool true)], args := [d] }
  | _ => none }
def fnExactLeastLettersRow : OpenClaim := { program := "ytgifhmjbmnopcaa", sum := "9153f5bdd5eac77427d43d7d68d9b212be449139494b0ec4c199ed525a2071d4", func := "loop.example/g01206/laws.FnExactLeastLetters", spec := "fnExactLeastLetters", unfollowed := true, recurses := true, apart := false }
def FnExactLeastLettersSaid : Prop := fnExactLeastLettersRow.holds Try.pinned (OpenSpec.ofChange fnExactLeastLettersSpec)

/-- ITS FALSE NEIGHBOUR: 'it returns false'. Refute it at one input. -/
def fnExactLeastLettersWrong : ChangeSpec := { name := "fnExactLeastLetters", fn := fun _ => fun
  | [d] => { results := [.lit (.bool false)], args := [d] }
  | _ => none }
def FnExactLeastLettersWrongFalsely : Prop := fnExactLeastLettersRow.holds Try.pinned (OpenSpec.ofChange fnExactLeastLettersWrong)

/-- 'laws.FnProofs': WHATEVER THE INPUT: true; the input reads as it did. -/
def fnProofsSpec : ChangeSpec := { name := "fnProofs", fn := fun _ => fun
  | [d] => { results := [.lit (.bool true)], args := [d] }
  | _ => none }
def fnProofsRow : OpenClaim := { program := "ytgifhmjbmnopcaa", sum := "9153f5bdd5eac77427d43d7d68d9b212be449139494b0ec4c199ed525a2071d4", func := "loop.example/g01206/laws.FnProofs", spec := "fnProofs", unfollowed := true, recurses := true, apart := false }
def FnProofsSaid : Prop := fnProofsRow.holds Try.pinned (OpenSpec.ofChange fnProofsSpec)

/-- ITS FALSE NEIGHBOUR: 'it returns false'. Refute it at one input. -/
def fnProofsWrong : ChangeSpec := { name := "fnProofs", fn := fun _ => fun
  | [d] => { results := [.lit (.bool false)], args := [d] }
  | _ => none }
def FnProofsWrongFalsely : Prop := fnProofsRow.holds Try.pinned (OpenSpec.ofChange fnProofsWrong)

/- THE SECOND FORM. 'bulk': how many values and letters a reading holds, each counted each time it is reached (what is shared counts as often as it is met; a slice's spare places count too). A statement '..UptoSaid' is the law's where the arguments, and the package variables that the reading takes, are together of bulk at most 1048576: NARROWER than '..Said'. Prove '..Said' where nothing that the law and all that it calls make is longer than what came in: it says more and counts as full. Else prove '..UptoSaid'. A law counts once. -/
mutual
def uptoBulk {H : Type} : DataW H → Nat
  | .lit (.string bytes) => bytes.length + 1
  | .lit _ => 1
  | .nil => 1
  | .ptr d => uptoBulk d + 1
  | .slice elems spare => uptoBulkAll elems + uptoBulkAll spare + 1
  | .agg parts => uptoBulkAll parts + 1
  | .iface _ d => uptoBulk d + 1
  | .map entries => uptoBulkEntries entries + 1
  | .held _ => 1
def uptoBulkAll {H : Type} : List (DataW H) → Nat
  | [] => 0
  | d :: r => uptoBulk d + uptoBulkAll r
def uptoBulkEntries {H : Type} : List (Lit × DataW H) → Nat
  | [] => 0
  | x :: r => uptoBulkEntry x + uptoBulkEntries r
def uptoBulkEntry {H : Type} : Lit × DataW H → Nat
  | (.string bytes, d) => bytes.length + uptoBulk d + 1
  | (_, d) => uptoBulk d + 1
 end
def uptoSmall : (H : Type) → List (DataW H) → Bool := fun _ ds => decide (uptoBulkAll ds ≤ 1048576)
def OpenSpec.upto (s : _root_.Go.ChangeSpec) : _root_.Go.OpenSpec := { _root_.Go.OpenSpec.ofChange s with cond := some uptoSmall }

/-- 'laws.FnExactCutsOf', WHERE WHAT IT READS IS OF BULK AT MOST 1048576: true; the input reads as it did. -/
def fnExactCutsOfUptoRow : OpenClaim := { program := "ytgifhmjbmnopcaa", sum := "9153f5bdd5eac77427d43d7d68d9b212be449139494b0ec4c199ed525a2071d4", func := "loop.example/g01206/laws.FnExactCutsOf", spec := "fnExactCutsOf", unfollowed := true, recurses := true, apart := false, narrowed := true }
def FnExactCutsOfUptoSaid : Prop := fnExactCutsOfUptoRow.holds Try.pinned (OpenSpec.upto fnExactCutsOfSpec)

/-- 'laws.FnExactMakeCut', WHERE WHAT IT READS IS OF BULK AT MOST 1048576: true; the input reads as it did. -/
def fnExactMakeCutUptoRow : OpenClaim := { program := "ytgifhmjbmnopcaa", sum := "9153f5bdd5eac77427d43d7d68d9b212be449139494b0ec4c199ed525a2071d4", func := "loop.example/g01206/laws.FnExactMakeCut", spec := "fnExactMakeCut", unfollowed := true, recurses := true, apart := false, narrowed := true }
def FnExactMakeCutUptoSaid : Prop := fnExactMakeCutUptoRow.holds Try.pinned (OpenSpec.upto fnExactMakeCutSpec)

/-- 'laws.FnExactIsProof', WHERE WHAT IT READS IS OF BULK AT MOST 1048576: true; the input reads as it did. -/
def fnExactIsProofUptoRow : OpenClaim := { program := "ytgifhmjbmnopcaa", sum := "9153f5bdd5eac77427d43d7d68d9b212be449139494b0ec4c199ed525a2071d4", func := "loop.example/g01206/laws.FnExactIsProof", spec := "fnExactIsProof", unfollowed := true, recurses := true, apart := false, narrowed := true }
def FnExactIsProofUptoSaid : Prop := fnExactIsProofUptoRow.holds Try.pinned (OpenSpec.upto fnExactIsProofSpec)

/-- 'laws.FnExactIsPairing', WHERE WHAT IT READS IS OF BULK AT MOST 1048576: true; the input reads as it did. -/
def fnExactIsPairingUptoRow : OpenClaim := { program := "ytgifhmjbmnopcaa", sum := "9153f5bdd5eac77427d43d7d68d9b212be449139494b0ec4c199ed525a2071d4", func := "loop.example/g01206/laws.FnExactIsPairing", spec := "fnExactIsPairing", unfollowed := true, recurses := true, apart := false, narrowed := true }
def FnExactIsPairingUptoSaid : Prop := fnExactIsPairingUptoRow.holds Try.pinned (OpenSpec.upto fnExactIsPairingSpec)

/-- 'laws.FnExactCountPairings', WHERE WHAT IT READS IS OF BULK AT MOST 1048576: true; the input reads as it did. -/
def fnExactCountPairingsUptoRow : OpenClaim := { program := "ytgifhmjbmnopcaa", sum := "9153f5bdd5eac77427d43d7d68d9b212be449139494b0ec4c199ed525a2071d4", func := "loop.example/g01206/laws.FnExactCountPairings", spec := "fnExactCountPairings", unfollowed := true, recurses := true, apart := false, narrowed := true }
def FnExactCountPairingsUptoSaid : Prop := fnExactCountPairingsUptoRow.holds Try.pinned (OpenSpec.upto fnExactCountPairingsSpec)

/-- 'laws.FnExactCountProofs', WHERE WHAT IT READS IS OF BULK AT MOST 1048576: true; the input reads as it did. -/
def fnExactCountProofsUptoRow : OpenClaim := { program := "ytgifhmjbmnopcaa", sum := "9153f5bdd5eac77427d43d7d68d9b212be449139494b0ec4c199ed525a2071d4", func := "loop.example/g01206/laws.FnExactCountProofs", spec := "fnExactCountProofs", unfollowed := true, recurses := true, apart := false, narrowed := true }
def FnExactCountProofsUptoSaid : Prop := fnExactCountProofsUptoRow.holds Try.pinned (OpenSpec.upto fnExactCountProofsSpec)

/-- 'laws.FnExactFirstProof', WHERE WHAT IT READS IS OF BULK AT MOST 1048576: true; the input reads as it did. -/
def fnExactFirstProofUptoRow : OpenClaim := { program := "ytgifhmjbmnopcaa", sum := "9153f5bdd5eac77427d43d7d68d9b212be449139494b0ec4c199ed525a2071d4", func := "loop.example/g01206/laws.FnExactFirstProof", spec := "fnExactFirstProof", unfollowed := true, recurses := true, apart := false, narrowed := true }
def FnExactFirstProofUptoSaid : Prop := fnExactFirstProofUptoRow.holds Try.pinned (OpenSpec.upto fnExactFirstProofSpec)

/-- 'laws.FnExactLastProof', WHERE WHAT IT READS IS OF BULK AT MOST 1048576: true; the input reads as it did. -/
def fnExactLastProofUptoRow : OpenClaim := { program := "ytgifhmjbmnopcaa", sum := "9153f5bdd5eac77427d43d7d68d9b212be449139494b0ec4c199ed525a2071d4", func := "loop.example/g01206/laws.FnExactLastProof", spec := "fnExactLastProof", unfollowed := true, recurses := true, apart := false, narrowed := true }
def FnExactLastProofUptoSaid : Prop := fnExactLastProofUptoRow.holds Try.pinned (OpenSpec.upto fnExactLastProofSpec)

/-- 'laws.FnExactPairingOf', WHERE WHAT IT READS IS OF BULK AT MOST 1048576: true; the input reads as it did. -/
def fnExactPairingOfUptoRow : OpenClaim := { program := "ytgifhmjbmnopcaa", sum := "9153f5bdd5eac77427d43d7d68d9b212be449139494b0ec4c199ed525a2071d4", func := "loop.example/g01206/laws.FnExactPairingOf", spec := "fnExactPairingOf", unfollowed := true, recurses := true, apart := false, narrowed := true }
def FnExactPairingOfUptoSaid : Prop := fnExactPairingOfUptoRow.holds Try.pinned (OpenSpec.upto fnExactPairingOfSpec)

/-- 'laws.FnExactPairingOfProof', WHERE WHAT IT READS IS OF BULK AT MOST 1048576: true; the input reads as it did. -/
def fnExactPairingOfProofUptoRow : OpenClaim := { program := "ytgifhmjbmnopcaa", sum := "9153f5bdd5eac77427d43d7d68d9b212be449139494b0ec4c199ed525a2071d4", func := "loop.example/g01206/laws.FnExactPairingOfProof", spec := "fnExactPairingOfProof", unfollowed := true, recurses := true, apart := false, narrowed := true }
def FnExactPairingOfProofUptoSaid : Prop := fnExactPairingOfProofUptoRow.holds Try.pinned (OpenSpec.upto fnExactPairingOfProofSpec)

/-- 'laws.FnExactLeastLetters', WHERE WHAT IT READS IS OF BULK AT MOST 1048576: true; the input reads as it did. -/
def fnExactLeastLettersUptoRow : OpenClaim := { program := "ytgifhmjbmnopcaa", sum := "9153f5bdd5eac77427d43d7d68d9b212be449139494b0ec4c199ed525a2071d4", func := "loop.example/g01206/laws.FnExactLeastLetters", spec := "fnExactLeastLetters", unfollowed := true, recurses := true, apart := false, narrowed := true }
def FnExactLeastLettersUptoSaid : Prop := fnExactLeastLettersUptoRow.holds Try.pinned (OpenSpec.upto fnExactLeastLettersSpec)

/-- 'laws.FnProofs', WHERE WHAT IT READS IS OF BULK AT MOST 1048576: true; the input reads as it did. -/
def fnProofsUptoRow : OpenClaim := { program := "ytgifhmjbmnopcaa", sum := "9153f5bdd5eac77427d43d7d68d9b212be449139494b0ec4c199ed525a2071d4", func := "loop.example/g01206/laws.FnProofs", spec := "fnProofs", unfollowed := true, recurses := true, apart := false, narrowed := true }
def FnProofsUptoSaid : Prop := fnProofsUptoRow.holds Try.pinned (OpenSpec.upto fnProofsSpec)

end Rows
end Go.Proofs.Ytgifhmjbmnopcaa
