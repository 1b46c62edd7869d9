/-
  No cell of these rows narrows 'for every input' (looked for: loops, veiled, ifaces, maps, wideKeys, modest, calm, conditions, laid).
  DERIVED. THE GIVEN ROWS OF THIS SEAT. 13 by the template 'for every input the law returns true; each argument reads behind the call as it read before'; 0 by the template 'total and deterministic' (their statements: YtmoiickbgokloaaTotals.lean).
  GIVEN WITH THE SEED: the statements are not yours to turn. If you find one false, say at which input.
  Laid BY PROGRAM, IN A SANDBOX (cutbox-rows.mjs): the forced cells as the released guide's own fill.sh prints them over the translation 18c3e84a93d8e2dc… (all of the seat's roots in one cut). By AI agents, Wed Nov 11 2026. No macro, syntax, notation, axiom, sorry.
-/
import Derived.Test.YtmoiickbgokloaaChecked
import GoSem.Claim
import GoSem.ClaimJoined
import GoSem.ClaimMapViews
import Derived.JoinedTies
import Derived.KernelRfl
namespace Go.Proofs.Ytmoiickbgokloaa
/- THE CELL 'sum', in the pinned program and in every row, IS THE sha256 OF THE DUMP (.gsa) THAT YtmoiickbgokloaaProg.lean LOADS. Nothing in Lean hashes anything: it is a label: what it is worth is what the hold of that sum in a sandbox is worth. -/
noncomputable def Try.pinned : Pinned := { name := "ytmoiickbgokloaa", sum := "18c3e84a93d8e2dc67c15ded630c711522b09e64f56b4e0a04dcf2ed0e71fa95", checked := Try.checked }
namespace Rows
def none {H : Type} : Left H := { results := [], args := [] }

/-- 'cosignerlaw12.ProveBounds': WHATEVER THE INPUT: true; the input reads as it did. -/
def proveBoundsSpec : ChangeSpec := { name := "proveBounds", fn := fun _ => fun
  | [d1, d2, d3, d4] => { results := [.lit (.bool true)], args := [d1, d2, d3, d4] }
  | _ => none }
def proveBoundsRow : OpenClaim := { program := "ytmoiickbgokloaa", sum := "18c3e84a93d8e2dc67c15ded630c711522b09e64f56b4e0a04dcf2ed0e71fa95", func := "cosigner/cosignerlaw12.ProveBounds", spec := "proveBounds", unfollowed := true, recurses := true, apart := false }
def ProveBoundsSaid : Prop := proveBoundsRow.holds Try.pinned (OpenSpec.ofChange proveBoundsSpec)

/-- ITS FALSE NEIGHBOUR: 'it returns false'. Refute it at one input. -/
def proveBoundsWrong : ChangeSpec := { name := "proveBounds", fn := fun _ => fun
  | [d1, d2, d3, d4] => { results := [.lit (.bool false)], args := [d1, d2, d3, d4] }
  | _ => none }
def ProveBoundsWrongFalsely : Prop := proveBoundsRow.holds Try.pinned (OpenSpec.ofChange proveBoundsWrong)

/-- 'cosignerlaw12.ProveMore': WHATEVER THE INPUT: true; the input reads as it did. -/
def proveMoreSpec : ChangeSpec := { name := "proveMore", fn := fun _ => fun
  | [d1, d2, d3, d4] => { results := [.lit (.bool true)], args := [d1, d2, d3, d4] }
  | _ => none }
def proveMoreRow : OpenClaim := { program := "ytmoiickbgokloaa", sum := "18c3e84a93d8e2dc67c15ded630c711522b09e64f56b4e0a04dcf2ed0e71fa95", func := "cosigner/cosignerlaw12.ProveMore", spec := "proveMore", unfollowed := true, recurses := true, apart := false }
def ProveMoreSaid : Prop := proveMoreRow.holds Try.pinned (OpenSpec.ofChange proveMoreSpec)

/-- ITS FALSE NEIGHBOUR: 'it returns false'. Refute it at one input. -/
def proveMoreWrong : ChangeSpec := { name := "proveMore", fn := fun _ => fun
  | [d1, d2, d3, d4] => { results := [.lit (.bool false)], args := [d1, d2, d3, d4] }
  | _ => none }
def ProveMoreWrongFalsely : Prop := proveMoreRow.holds Try.pinned (OpenSpec.ofChange proveMoreWrong)

/-- 'cosignerlaw12.ProveOrder': WHATEVER THE INPUT: true; the input reads as it did. -/
def proveOrderSpec : ChangeSpec := { name := "proveOrder", fn := fun _ => fun
  | [d1, d2, d3, d4] => { results := [.lit (.bool true)], args := [d1, d2, d3, d4] }
  | _ => none }
def proveOrderRow : OpenClaim := { program := "ytmoiickbgokloaa", sum := "18c3e84a93d8e2dc67c15ded630c711522b09e64f56b4e0a04dcf2ed0e71fa95", func := "cosigner/cosignerlaw12.ProveOrder", spec := "proveOrder", unfollowed := true, recurses := true, apart := false }
def ProveOrderSaid : Prop := proveOrderRow.holds Try.pinned (OpenSpec.ofChange proveOrderSpec)

/-- ITS FALSE NEIGHBOUR: 'it returns false'. Refute it at one input. -/
def proveOrderWrong : ChangeSpec := { name := "proveOrder", fn := fun _ => fun
  | [d1, d2, d3, d4] => { results := [.lit (.bool false)], args := [d1, d2, d3, d4] }
  | _ => none }
def ProveOrderWrongFalsely : Prop := proveOrderRow.holds Try.pinned (OpenSpec.ofChange proveOrderWrong)

/-- 'cosignerlaw12.ProveNeeds': WHATEVER THE INPUT: true; the input reads as it did. -/
def proveNeedsSpec : ChangeSpec := { name := "proveNeeds", fn := fun _ => fun
  | [d1, d2] => { results := [.lit (.bool true)], args := [d1, d2] }
  | _ => none }
def proveNeedsRow : OpenClaim := { program := "ytmoiickbgokloaa", sum := "18c3e84a93d8e2dc67c15ded630c711522b09e64f56b4e0a04dcf2ed0e71fa95", func := "cosigner/cosignerlaw12.ProveNeeds", spec := "proveNeeds", unfollowed := true, recurses := true, apart := false }
def ProveNeedsSaid : Prop := proveNeedsRow.holds Try.pinned (OpenSpec.ofChange proveNeedsSpec)

/-- ITS FALSE NEIGHBOUR: 'it returns false'. Refute it at one input. -/
def proveNeedsWrong : ChangeSpec := { name := "proveNeeds", fn := fun _ => fun
  | [d1, d2] => { results := [.lit (.bool false)], args := [d1, d2] }
  | _ => none }
def ProveNeedsWrongFalsely : Prop := proveNeedsRow.holds Try.pinned (OpenSpec.ofChange proveNeedsWrong)

/-- 'cosignerlaw12.ProveFits': WHATEVER THE INPUT: true; the input reads as it did. -/
def proveFitsSpec : ChangeSpec := { name := "proveFits", fn := fun _ => fun
  | [d1, d2, d3] => { results := [.lit (.bool true)], args := [d1, d2, d3] }
  | _ => none }
def proveFitsRow : OpenClaim := { program := "ytmoiickbgokloaa", sum := "18c3e84a93d8e2dc67c15ded630c711522b09e64f56b4e0a04dcf2ed0e71fa95", func := "cosigner/cosignerlaw12.ProveFits", spec := "proveFits", unfollowed := true, recurses := true, apart := false }
def ProveFitsSaid : Prop := proveFitsRow.holds Try.pinned (OpenSpec.ofChange proveFitsSpec)

/-- ITS FALSE NEIGHBOUR: 'it returns false'. Refute it at one input. -/
def proveFitsWrong : ChangeSpec := { name := "proveFits", fn := fun _ => fun
  | [d1, d2, d3] => { results := [.lit (.bool false)], args := [d1, d2, d3] }
  | _ => none }
def ProveFitsWrongFalsely : Prop := proveFitsRow.holds Try.pinned (OpenSpec.ofChange proveFitsWrong)

/-- 'cosignerlaw12.ProveEntails': WHATEVER THE INPUT: true; the input reads as it did. -/
def proveEntailsSpec : ChangeSpec := { name := "proveEntails", fn := fun _ => fun
  | [d1, d2, d3] => { results := [.lit (.bool true)], args := [d1, d2, d3] }
  | _ => none }
def proveEntailsRow : OpenClaim := { program := "ytmoiickbgokloaa", sum := "18c3e84a93d8e2dc67c15ded630c711522b09e64f56b4e0a04dcf2ed0e71fa95", func := "cosigner/cosignerlaw12.ProveEntails", spec := "proveEntails", unfollowed := true, recurses := true, apart := false }
def ProveEntailsSaid : Prop := proveEntailsRow.holds Try.pinned (OpenSpec.ofChange proveEntailsSpec)

/-- ITS FALSE NEIGHBOUR: 'it returns false'. Refute it at one input. -/
def proveEntailsWrong : ChangeSpec := { name := "proveEntails", fn := fun _ => fun
  | [d1, d2, d3] => { results := [.lit (.bool false)], args := [d1, d2, d3] }
  | _ => none }
def ProveEntailsWrongFalsely : Prop := proveEntailsRow.holds Try.pinned (OpenSpec.ofChange proveEntailsWrong)

/-- 'cosignerlaw12.ProveDecides': WHATEVER THE INPUT: true; the input reads as it did. -/
def proveDecidesSpec : ChangeSpec := { name := "proveDecides", fn := fun _ => fun
  | [d1, d2] => { results := [.lit (.bool true)], args := [d1, d2] }
  | _ => none }
def proveDecidesRow : OpenClaim := { program := "ytmoiickbgokloaa", sum := "18c3e84a93d8e2dc67c15ded630c711522b09e64f56b4e0a04dcf2ed0e71fa95", func := "cosigner/cosignerlaw12.ProveDecides", spec := "proveDecides", unfollowed := true, recurses := true, apart := false }
def ProveDecidesSaid : Prop := proveDecidesRow.holds Try.pinned (OpenSpec.ofChange proveDecidesSpec)

/-- ITS FALSE NEIGHBOUR: 'it returns false'. Refute it at one input. -/
def proveDecidesWrong : ChangeSpec := { name := "proveDecides", fn := fun _ => fun
  | [d1, d2] => { results := [.lit (.bool false)], args := [d1, d2] }
  | _ => none }
def ProveDecidesWrongFalsely : Prop := proveDecidesRow.holds Try.pinned (OpenSpec.ofChange proveDecidesWrong)

/-- 'cosignerlaw12.ProveGreatest': WHATEVER THE INPUT: true; the input reads as it did. -/
def proveGreatestSpec : ChangeSpec := { name := "proveGreatest", fn := fun _ => fun
  | [d1, d2, d3, d4] => { results := [.lit (.bool true)], args := [d1, d2, d3, d4] }
  | _ => none }
def proveGreatestRow : OpenClaim := { program := "ytmoiickbgokloaa", sum := "18c3e84a93d8e2dc67c15ded630c711522b09e64f56b4e0a04dcf2ed0e71fa95", func := "cosigner/cosignerlaw12.ProveGreatest", spec := "proveGreatest", unfollowed := true, recurses := true, apart := false }
def ProveGreatestSaid : Prop := proveGreatestRow.holds Try.pinned (OpenSpec.ofChange proveGreatestSpec)

/-- ITS FALSE NEIGHBOUR: 'it returns false'. Refute it at one input. -/
def proveGreatestWrong : ChangeSpec := { name := "proveGreatest", fn := fun _ => fun
  | [d1, d2, d3, d4] => { results := [.lit (.bool false)], args := [d1, d2, d3, d4] }
  | _ => none }
def ProveGreatestWrongFalsely : Prop := proveGreatestRow.holds Try.pinned (OpenSpec.ofChange proveGreatestWrong)

/-- 'cosignerlaw12.ProveChooses': WHATEVER THE INPUT: true; the input reads as it did. -/
def proveChoosesSpec : ChangeSpec := { name := "proveChooses", fn := fun _ => fun
  | [d1, d2, d3, d4] => { results := [.lit (.bool true)], args := [d1, d2, d3, d4] }
  | _ => none }
def proveChoosesRow : OpenClaim := { program := "ytmoiickbgokloaa", sum := "18c3e84a93d8e2dc67c15ded630c711522b09e64f56b4e0a04dcf2ed0e71fa95", func := "cosigner/cosignerlaw12.ProveChooses", spec := "proveChooses", unfollowed := true, recurses := true, apart := false }
def ProveChoosesSaid : Prop := proveChoosesRow.holds Try.pinned (OpenSpec.ofChange proveChoosesSpec)

/-- ITS FALSE NEIGHBOUR: 'it returns false'. Refute it at one input. -/
def proveChoosesWrong : ChangeSpec := { name := "proveChooses", fn := fun _ => fun
  | [d1, d2, d3, d4] => { results := [.lit (.bool false)], args := [d1, d2, d3, d4] }
  | _ => none }
def ProveChoosesWrongFalsely : Prop := proveChoosesRow.holds Try.pinned (OpenSpec.ofChange proveChoosesWrong)

/-- 'cosignerlaw12.ProveMoved': WHATEVER THE INPUT: true; the input reads as it did. -/
def proveMovedSpec : ChangeSpec := { name := "proveMoved", fn := fun _ => fun
  | [d1, d2, d3, d4, d5] => { results := [.lit (.bool true)], args := [d1, d2, d3, d4, d5] }
  | _ => none }
def proveMovedRow : OpenClaim := { program := "ytmoiickbgokloaa", sum := "18c3e84a93d8e2dc67c15ded630c711522b09e64f56b4e0a04dcf2ed0e71fa95", func := "cosigner/cosignerlaw12.ProveMoved", spec := "proveMoved", unfollowed := true, recurses := true, apart := false }
def ProveMovedSaid : Prop := proveMovedRow.holds Try.pinned (OpenSpec.ofChange proveMovedSpec)

/-- ITS FALSE NEIGHBOUR: 'it returns false'. Refute it at one input. -/
def proveMovedWrong : ChangeSpec := { name := "proveMoved", fn := fun _ => fun
  | [d1, d2, d3, d4, d5] => { results := [.lit (.bool false)], args := [d1, d2, d3, d4, d5] }
  | _ => none }
def ProveMovedWrongFalsely : Prop := proveMovedRow.holds Try.pinned (OpenSpec.ofChange proveMovedWrong)

/-- 'cosignerlaw12.ProveChecks': WHATEVER THE INPUT: true; the input reads as it did. -/
def proveChecksSpec : ChangeSpec := { name := "proveChecks", fn := fun _ => fun
  | [d1, d2, d3, d4] => { results := [.lit (.bool true)], args := [d1, d2, d3, d4] }
  | _ => none }
def proveChecksRow : OpenClaim := { program := "ytmoiickbgokloaa", sum := "18c3e84a93d8e2dc67c15ded630c711522b09e64f56b4e0a04dcf2ed0e71fa95", func := "cosigner/cosignerlaw12.ProveChecks", spec := "proveChecks", unfollowed := true, recurses := true, apart := false }
def ProveChecksSaid : Prop := proveChecksRow.holds Try.pinned (OpenSpec.ofChange proveChecksSpec)

/-- ITS FALSE NEIGHBOUR: 'it returns false'. Refute it at one input. -/
def proveChecksWrong : ChangeSpec := { name := "proveChecks", fn := fun _ => fun
  | [d1, d2, d3, d4] => { results := [.lit (.bool false)], args := [d1, d2, d3, d4] }
  | _ => none }
def ProveChecksWrongFalsely : Prop := proveChecksRow.holds Try.pinned (OpenSpec.ofChange proveChecksWrong)

/-- 'cosignerlaw12.ProveEither': WHATEVER THE INPUT: true; the input reads as it did. -/
def proveEitherSpec : ChangeSpec := { name := "proveEither", fn := fun _ => fun
  | [d1, d2, d3, d4] => { results := [.lit (.bool true)], args := [d1, d2, d3, d4] }
  | _ => none }
def proveEitherRow : OpenClaim := { program := "ytmoiickbgokloaa", sum := "18c3e84a93d8e2dc67c15ded630c711522b09e64f56b4e0a04dcf2ed0e71fa95", func := "cosigner/cosignerlaw12.ProveEither", spec := "proveEither", unfollowed := true, recurses := true, apart := false }
def ProveEitherSaid : Prop := proveEitherRow.holds Try.pinned (OpenSpec.ofChange proveEitherSpec)

/-- ITS FALSE NEIGHBOUR: 'it returns false'. Refute it at one input. -/
def proveEitherWrong : ChangeSpec := { name := "proveEither", fn := fun _ => fun
  | [d1, d2, d3, d4] => { results := [.lit (.bool false)], args := [d1, d2, d3, d4] }
  | _ => none }
def ProveEitherWrongFalsely : Prop := proveEitherRow.holds Try.pinned (OpenSpec.ofChange proveEitherWrong)

/-- 'cosignerlaw12.ProveFollows': WHATEVER THE INPUT: true; the input reads as it did. -/
def proveFollowsSpec : ChangeSpec := { name := "proveFollows", fn := fun _ => fun
  | [d1, d2, d3, d4, d5] => { results := [.lit (.bool true)], args := [d1, d2, d3, d4, d5] }
  | _ => none }
def proveFollowsRow : OpenClaim := { program := "ytmoiickbgokloaa", sum := "18c3e84a93d8e2dc67c15ded630c711522b09e64f56b4e0a04dcf2ed0e71fa95", func := "cosigner/cosignerlaw12.ProveFollows", spec := "proveFollows", unfollowed := true, recurses := true, apart := false }
def ProveFollowsSaid : Prop := proveFollowsRow.holds Try.pinned (OpenSpec.ofChange proveFollowsSpec)

/-- ITS FALSE NEIGHBOUR: 'it returns false'. Refute it at one input. -/
def proveFollowsWrong : ChangeSpec := { name := "proveFollows", fn := fun _ => fun
  | [d1, d2, d3, d4, d5] => { results := [.lit (.bool false)], args := [d1, d2, d3, d4, d5] }
  | _ => none }
def ProveFollowsWrongFalsely : Prop := proveFollowsRow.holds Try.pinned (OpenSpec.ofChange proveFollowsWrong)

/- THE SECOND FORM. 'bulk': how many values and letters a reading holds, each counted each time it is reached (what is shared counts as often as it is met; a slice's spare places count too). A statement '..UptoSaid' is the law's where the arguments, and the package variables that the reading takes, are together of bulk at most 1048576: NARROWER than '..Said'. Prove '..Said' where nothing that the law and all that it calls make is longer than what came in: it says more and counts as full. Else prove '..UptoSaid'. A law counts once. -/
mutual
def uptoBulk {H : Type} : DataW H → Nat
  | .lit (.string bytes) => bytes.length + 1
  | .lit _ => 1
  | .nil => 1
  | .ptr d => uptoBulk d + 1
  | .slice elems spare => uptoBulkAll elems + uptoBulkAll spare + 1
  | .agg parts => uptoBulkAll parts + 1
  | .iface _ d => uptoBulk d + 1
  | .map entries => uptoBulkEntries entries + 1
  | .held _ => 1
def uptoBulkAll {H : Type} : List (DataW H) → Nat
  | [] => 0
  | d :: r => uptoBulk d + uptoBulkAll r
def uptoBulkEntries {H : Type} : List (Lit × DataW H) → Nat
  | [] => 0
  | x :: r => uptoBulkEntry x + uptoBulkEntries r
def uptoBulkEntry {H : Type} : Lit × DataW H → Nat
  | (.string bytes, d) => bytes.length + uptoBulk d + 1
  | (_, d) => uptoBulk d + 1
 end
def uptoSmall : (H : Type) → List (DataW H) → Bool := fun _ ds => decide (uptoBulkAll ds ≤ 1048576)
def OpenSpec.upto (s : _root_.Go.ChangeSpec) : _root_.Go.OpenSpec := { _root_.Go.OpenSpec.ofChange s with cond := some uptoSmall }

/-- 'cosignerlaw12.ProveBounds', WHERE WHAT IT READS IS OF BULK AT MOST 1048576: true; the input reads as it did. -/
def proveBoundsUptoRow : OpenClaim := { program := "ytmoiickbgokloaa", sum := "18c3e84a93d8e2dc67c15ded630c711522b09e64f56b4e0a04dcf2ed0e71fa95", func := "cosigner/cosignerlaw12.ProveBounds", spec := "proveBounds", unfollowed := true, recurses := true, apart := false, narrowed := true }
def ProveBoundsUptoSaid : Prop := proveBoundsUptoRow.holds Try.pinned (OpenSpec.upto proveBoundsSpec)

/-- 'cosignerlaw12.ProveMore', WHERE WHAT IT READS IS OF BULK AT MOST 1048576: true; the input reads as it did. -/
def proveMoreUptoRow : OpenClaim := { program := "ytmoiickbgokloaa", sum := "18c3e84a93d8e2dc67c15ded630c711522b09e64f56b4e0a04dcf2ed0e71fa95", func := "cosigner/cosignerlaw12.ProveMore", spec := "proveMore", unfollowed := true, recurses := true, apart := false, narrowed := true }
def ProveMoreUptoSaid : Prop := proveMoreUptoRow.holds Try.pinned (OpenSpec.upto proveMoreSpec)

/-- 'cosignerlaw12.ProveOrder', WHERE WHAT IT READS IS OF BULK AT MOST 1048576: true; the input reads as it did. -/
def proveOrderUptoRow : OpenClaim := { program := "ytmoiickbgokloaa", sum := "18c3e84a93d8e2dc67c15ded630c711522b09e64f56b4e0a04dcf2ed0e71fa95", func := "cosigner/cosignerlaw12.ProveOrder", spec := "proveOrder", unfollowed := true, recurses := true, apart := false, narrowed := true }
def ProveOrderUptoSaid : Prop := proveOrderUptoRow.holds Try.pinned (OpenSpec.upto proveOrderSpec)

/-- 'cosignerlaw12.ProveNeeds', WHERE WHAT IT READS IS OF BULK AT MOST 1048576: true; the input reads as it did. -/
def proveNeedsUptoRow : OpenClaim := { program := "ytmoiickbgokloaa", sum := "18c3e84a93d8e2dc67c15ded630c711522b09e64f56b4e0a04dcf2ed0e71fa95", func := "cosigner/cosignerlaw12.ProveNeeds", spec := "proveNeeds", unfollowed := true, recurses := true, apart := false, narrowed := true }
def ProveNeedsUptoSaid : Prop := proveNeedsUptoRow.holds Try.pinned (OpenSpec.upto proveNeedsSpec)

/-- 'cosignerlaw12.ProveFits', WHERE WHAT IT READS IS OF BULK AT MOST 1048576: true; the input reads as it did. -/
def proveFitsUptoRow : OpenClaim := { program := "ytmoiickbgokloaa", sum := "18c3e84a93d8e2dc67c15ded630c711522b09e64f56b4e0a04dcf2ed0e71fa95", func := "cosigner/cosignerlaw12.ProveFits", spec := "proveFits", unfollowed := true, recurses := true, apart := false, narrowed := true }
def ProveFitsUptoSaid : Prop := proveFitsUptoRow.holds Try.pinned (OpenSpec.upto proveFitsSpec)

/-- 'cosignerlaw12.ProveEntails', WHERE WHAT IT READS IS OF BULK AT MOST 1048576: true; the input reads as it did. -/
def proveEntailsUptoRow : OpenClaim := { program := "ytmoiickbgokloaa", sum := "18c3e84a93d8e2dc67c15ded630c711522b09e64f56b4e0a04dcf2ed0e71fa95", func := "cosigner/cosignerlaw12.ProveEntails", spec := "proveEntails", unfollowed := true, recurses := true, apart := false, narrowed := true }
def ProveEntailsUptoSaid : Prop := proveEntailsUptoRow.holds Try.pinned (OpenSpec.upto proveEntailsSpec)

/-- 'cosignerlaw12.ProveDecides', WHERE WHAT IT READS IS OF BULK AT MOST 1048576: true; the input reads as it did. -/
def proveDecidesUptoRow : OpenClaim := { program := "ytmoiickbgokloaa", sum := "18c3e84a93d8e2dc67c15ded630c711522b09e64f56b4e0a04dcf2ed0e71fa95", func := "cosigner/cosignerlaw12.ProveDecides", spec := "proveDecides", unfollowed := true, recurses := true, apart := false, narrowed := true }
def ProveDecidesUptoSaid : Prop := proveDecidesUptoRow.holds Try.pinned (OpenSpec.upto proveDecidesSpec)

/-- 'cosignerlaw12.ProveGreatest', WHERE WHAT IT READS IS OF BULK AT MOST 1048576: true; the input reads as it did. -/
def proveGreatestUptoRow : OpenClaim := { program := "ytmoiickbgokloaa", sum := "18c3e84a93d8e2dc67c15ded630c711522b09e64f56b4e0a04dcf2ed0e71fa95", func := "cosigner/cosignerlaw12.ProveGreatest", spec := "proveGreatest", unfollowed := true, recurses := true, apart := false, narrowed := true }
def ProveGreatestUptoSaid : Prop := proveGreatestUptoRow.holds Try.pinned (OpenSpec.upto proveGreatestSpec)

/-- 'cosignerlaw12.ProveChooses', WHERE WHAT IT READS IS OF BULK AT MOST 1048576: true; the input reads as it did. -/
def proveChoosesUptoRow : OpenClaim := { program := "ytmoiickbgokloaa", sum := "18c3e84a93d8e2dc67c15ded630c711522b09e64f56b4e0a04dcf2ed0e71fa95", func := "cosigner/cosignerlaw12.ProveChooses", spec := "proveChooses", unfollowed := true, recurses := true, apart := false, narrowed := true }
def ProveChoosesUptoSaid : Prop := proveChoosesUptoRow.holds Try.pinned (OpenSpec.upto proveChoosesSpec)

/-- 'cosignerlaw12.ProveMoved', WHERE WHAT IT READS IS OF BULK AT MOST 1048576: true; the input reads as it did. -/
def proveMovedUptoRow : OpenClaim := { program := "ytmoiickbgokloaa", sum := "18c3e84a93d8e2dc67c15ded630c711522b09e64f56b4e0a04dcf2ed0e71fa95", func := "cosigner/cosignerlaw12.ProveMoved", spec := "proveMoved", unfollowed := true, recurses := true, apart := false, narrowed := true }
def ProveMovedUptoSaid : Prop := proveMovedUptoRow.holds Try.pinned (OpenSpec.upto proveMovedSpec)

/-- 'cosignerlaw12.ProveChecks', WHERE WHAT IT READS IS OF BULK AT MOST 1048576: true; the input reads as it did. -/
def proveChecksUptoRow : OpenClaim := { program := "ytmoiickbgokloaa", sum := "18c3e84a93d8e2dc67c15ded630c711522b09e64f56b4e0a04dcf2ed0e71fa95", func := "cosigner/cosignerlaw12.ProveChecks", spec := "proveChecks", unfollowed := true, recurses := true, apart := false, narrowed := true }
def ProveChecksUptoSaid : Prop := proveChecksUptoRow.holds Try.pinned (OpenSpec.upto proveChecksSpec)

/-- 'cosignerlaw12.ProveEither', WHERE WHAT IT READS IS OF BULK AT MOST 1048576: true; the input reads as it did. -/
def proveEitherUptoRow : OpenClaim := { program := "ytmoiickbgokloaa", sum := "18c3e84a93d8e2dc67c15ded630c711522b09e64f56b4e0a04dcf2ed0e71fa95", func := "cosigner/cosignerlaw12.ProveEither", spec := "proveEither", unfollowed := true, recurses := true, apart := false, narrowed := true }
def ProveEitherUptoSaid : Prop := proveEitherUptoRow.holds Try.pinned (OpenSpec.upto proveEitherSpec)

/-- 'cosignerlaw12.ProveFollows', WHERE WHAT IT READS IS OF BULK AT MOST 1048576: true; the input reads as it did. -/
def proveFollowsUptoRow : OpenClaim := { program := "ytmoiickbgokloaa", sum := "18c3e84a93d8e2dc67c15ded630c711522b09e64f56b4e0a04dcf2ed0e71fa95", func := "cosigner/cosignerlaw12.ProveFollows", spec := "proveFollows", unfollowed := true, recurses := true, apart := false, narrowed := true }
def ProveFollowsUptoSaid : Prop := proveFollowsUptoRow.holds Try.pinned (OpenSpec.upto proveFollowsSpec)

end Rows
end Go.Proofs.Ytmoiickbgokloaa
