/-
  No cell of these rows narrows 'for every input' (looked for: loops, veiled, ifaces, maps, wideKeys, modest, calm, conditions, laid).
  DERIVED. THE GIVEN ROWS OF THIS SEAT. 12 by the template 'for every input the law returns true; each argument reads behind the call as it read before'; 0 by the template 'total and deterministic' (their statements: YtjinpagnbflmiaaTotals.lean).
  GIVEN WITH THE SEED: the statements are not yours to turn. If you find one false, say at which input.
  Laid BY PROGRAM, IN A SANDBOX (cutbox-rows.mjs): the forced cells as the released guide's own fill.sh prints them over the translation 8fb7cf90b39b915b… (all of the seat's roots in one cut). By AI agents, Wed Nov 11 2026. No macro, syntax, notation, axiom, sorry.
-/
import Derived.Test.YtjinpagnbflmiaaChecked
import GoSem.Claim
import GoSem.ClaimJoined
import GoSem.ClaimMapViews
import Derived.JoinedTies
import Derived.KernelRfl
namespace Go.Proofs.Ytjinpagnbflmiaa
/- THE CELL 'sum', in the pinned program and in every row, IS THE sha256 OF THE DUMP (.gsa) THAT YtjinpagnbflmiaaProg.lean LOADS. Nothing in Lean hashes anything: it is a label: what it is worth is what the hold of that sum in a sandbox is worth. -/
noncomputable def Try.pinned : Pinned := { name := "ytjinpagnbflmiaa", sum := "8fb7cf90b39b915b4f1656f86acd79d8a151088a80ab709fbe02c0a8c989e2f7", checked := Try.checked }
namespace Rows
def none {H : Type} : Left H := { results := [], args := [] }

/-- 'laws.FnExactUsesOf': WHATEVER THE INPUT: true; the input reads as it did. -/
def fnExactUsesOfSpec : ChangeSpec := { name := "fnExactUsesOf", fn := fun _ => fun
  | [d1, d2, d3] => { results := [.lit (.bool true)], args := [d1, d2, d3] }
  | _ => none }
def fnExactUsesOfRow : OpenClaim := { program := "ytjinpagnbflmiaa", sum := "8fb7cf90b39b915b4f1656f86acd79d8a151088a80ab709fbe02c0a8c989e2f7", func := "loop.example/g01162/laws.FnExactUsesOf", spec := "fnExactUsesOf", unfollowed := true, recurses := true, apart := false }
def FnExactUsesOfSaid : Prop := fnExactUsesOfRow.holds Try.pinned (OpenSpec.ofChange fnExactUsesOfSpec)

/-- ITS FALSE NEIGHBOUR: 'it returns false'. Refute it at one input. -/
def fnExactUsesOfWrong : ChangeSpec := { name := "fnExactUsesOf", fn := fun _ => fun
  | [d1, d2, d3] => { results := [.lit (.bool false)], args := [d1, d2, d3] }
  | _ => none }
def FnExactUsesOfWrongFalsely : Prop := fnExactUsesOfRow.holds Try.pinned (OpenSpec.ofChange fnExactUsesOfWrong)

/-- 'laws.FnExactToUnicycle': WHATEVER THE INPUT: true; the input reads as it did. -/
def fnExactToUnicycleSpec : ChangeSpec := { name := "fnExactToUnicycle", fn := fun _ => fun
  | [d1, d2] => { results := [.lit (.bool true)], args := [d1, d2] }
  | _ => none }
def fnExactToUnicycleRow : OpenClaim := { program := "ytjinpagnbflmiaa", sum := "8fb7cf90b39b915b4f1656f86acd79d8a151088a80ab709fbe02c0a8c989e2f7", func := "loop.example/g01162/laws.FnExactToUnicycle", spec := "fnExactToUnicycle", unfollowed := true, recurses := true, apart := false }
def FnExactToUnicycleSaid : Prop := fnExactToUnicycleRow.holds Try.pinned (OpenSpec.ofChange fnExactToUnicycleSpec)

/-- ITS FALSE NEIGHBOUR: 'it returns false'. Refute it at one input. -/
def fnExactToUnicycleWrong : ChangeSpec := { name := "fnExactToUnicycle", fn := fun _ => fun
  | [d1, d2] => { results := [.lit (.bool false)], args := [d1, d2] }
  | _ => none }
def FnExactToUnicycleWrongFalsely : Prop := fnExactToUnicycleRow.holds Try.pinned (OpenSpec.ofChange fnExactToUnicycleWrong)

/-- 'laws.FnExactPopCycle': WHATEVER THE INPUT: true; the input reads as it did. -/
def fnExactPopCycleSpec : ChangeSpec := { name := "fnExactPopCycle", fn := fun _ => fun
  | [d1, d2, d3, d4] => { results := [.lit (.bool true)], args := [d1, d2, d3, d4] }
  | _ => none }
def fnExactPopCycleRow : OpenClaim := { program := "ytjinpagnbflmiaa", sum := "8fb7cf90b39b915b4f1656f86acd79d8a151088a80ab709fbe02c0a8c989e2f7", func := "loop.example/g01162/laws.FnExactPopCycle", spec := "fnExactPopCycle", unfollowed := true, recurses := true, apart := false }
def FnExactPopCycleSaid : Prop := fnExactPopCycleRow.holds Try.pinned (OpenSpec.ofChange fnExactPopCycleSpec)

/-- ITS FALSE NEIGHBOUR: 'it returns false'. Refute it at one input. -/
def fnExactPopCycleWrong : ChangeSpec := { name := "fnExactPopCycle", fn := fun _ => fun
  | [d1, d2, d3, d4] => { results := [.lit (.bool false)], args := [d1, d2, d3, d4] }
  | _ => none }
def FnExactPopCycleWrongFalsely : Prop := fnExactPopCycleRow.holds Try.pinned (OpenSpec.ofChange fnExactPopCycleWrong)

/-- 'laws.FnExactCountPops': WHATEVER THE INPUT: true; the input reads as it did. -/
def fnExactCountPopsSpec : ChangeSpec := { name := "fnExactCountPops", fn := fun _ => fun
  | [d1, d2, d3] => { results := [.lit (.bool true)], args := [d1, d2, d3] }
  | _ => none }
def fnExactCountPopsRow : OpenClaim := { program := "ytjinpagnbflmiaa", sum := "8fb7cf90b39b915b4f1656f86acd79d8a151088a80ab709fbe02c0a8c989e2f7", func := "loop.example/g01162/laws.FnExactCountPops", spec := "fnExactCountPops", unfollowed := true, recurses := true, apart := false }
def FnExactCountPopsSaid : Prop := fnExactCountPopsRow.holds Try.pinned (OpenSpec.ofChange fnExactCountPopsSpec)

/-- ITS FALSE NEIGHBOUR: 'it returns false'. Refute it at one input. -/
def fnExactCountPopsWrong : ChangeSpec := { name := "fnExactCountPops", fn := fun _ => fun
  | [d1, d2, d3] => { results := [.lit (.bool false)], args := [d1, d2, d3] }
  | _ => none }
def FnExactCountPopsWrongFalsely : Prop := fnExactCountPopsRow.holds Try.pinned (OpenSpec.ofChange fnExactCountPopsWrong)

/-- 'laws.FnExactAreEnough': WHATEVER THE INPUT: true; the input reads as it did. -/
def fnExactAreEnoughSpec : ChangeSpec := { name := "fnExactAreEnough", fn := fun _ => fun
  | [d1, d2, d3, d4] => { results := [.lit (.bool true)], args := [d1, d2, d3, d4] }
  | _ => none }
def fnExactAreEnoughRow : OpenClaim := { program := "ytjinpagnbflmiaa", sum := "8fb7cf90b39b915b4f1656f86acd79d8a151088a80ab709fbe02c0a8c989e2f7", func := "loop.example/g01162/laws.FnExactAreEnough", spec := "fnExactAreEnough", unfollowed := true, recurses := true, apart := false }
def FnExactAreEnoughSaid : Prop := fnExactAreEnoughRow.holds Try.pinned (OpenSpec.ofChange fnExactAreEnoughSpec)

/-- ITS FALSE NEIGHBOUR: 'it returns false'. Refute it at one input. -/
def fnExactAreEnoughWrong : ChangeSpec := { name := "fnExactAreEnough", fn := fun _ => fun
  | [d1, d2, d3, d4] => { results := [.lit (.bool false)], args := [d1, d2, d3, d4] }
  | _ => none }
def FnExactAreEnoughWrongFalsely : Prop := fnExactAreEnoughRow.holds Try.pinned (OpenSpec.ofChange fnExactAreEnoughWrong)

/-- 'laws.FnExactMoveInOrder': WHATEVER THE INPUT: true; the input reads as it did. -/
def fnExactMoveInOrderSpec : ChangeSpec := { name := "fnExactMoveInOrder", fn := fun _ => fun
  | [d1, d2, d3, d4] => { results := [.lit (.bool true)], args := [d1, d2, d3, d4] }
  | _ => none }
def fnExactMoveInOrderRow : OpenClaim := { program := "ytjinpagnbflmiaa", sum := "8fb7cf90b39b915b4f1656f86acd79d8a151088a80ab709fbe02c0a8c989e2f7", func := "loop.example/g01162/laws.FnExactMoveInOrder", spec := "fnExactMoveInOrder", unfollowed := true, recurses := true, apart := false }
def FnExactMoveInOrderSaid : Prop := fnExactMoveInOrderRow.holds Try.pinned (OpenSpec.ofChange fnExactMoveInOrderSpec)

/-- ITS FALSE NEIGHBOUR: 'it returns false'. Refute it at one input. -/
def fnExactMoveInOrderWrong : ChangeSpec := { name := "fnExactMoveInOrder", fn := fun _ => fun
  | [d1, d2, d3, d4] => { results := [.lit (.bool false)], args := [d1, d2, d3, d4] }
  | _ => none }
def FnExactMoveInOrderWrongFalsely : Prop := fnExactMoveInOrderRow.holds Try.pinned (OpenSpec.ofChange fnExactMoveInOrderWrong)

/-- 'laws.FnExactForceMoves': WHATEVER THE INPUT: true; the input reads as it did. -/
def fnExactForceMovesSpec : ChangeSpec := { name := "fnExactForceMoves", fn := fun _ => fun
  | [d1, d2, d3, d4] => { results := [.lit (.bool true)], args := [d1, d2, d3, d4] }
  | _ => none }
def fnExactForceMovesRow : OpenClaim := { program := "ytjinpagnbflmiaa", sum := "8fb7cf90b39b915b4f1656f86acd79d8a151088a80ab709fbe02c0a8c989e2f7", func := "loop.example/g01162/laws.FnExactForceMoves", spec := "fnExactForceMoves", unfollowed := true, recurses := true, apart := false }
def FnExactForceMovesSaid : Prop := fnExactForceMovesRow.holds Try.pinned (OpenSpec.ofChange fnExactForceMovesSpec)

/-- ITS FALSE NEIGHBOUR: 'it returns false'. Refute it at one input. -/
def fnExactForceMovesWrong : ChangeSpec := { name := "fnExactForceMoves", fn := fun _ => fun
  | [d1, d2, d3, d4] => { results := [.lit (.bool false)], args := [d1, d2, d3, d4] }
  | _ => none }
def FnExactForceMovesWrongFalsely : Prop := fnExactForceMovesRow.holds Try.pinned (OpenSpec.ofChange fnExactForceMovesWrong)

/-- 'laws.FnExactMoveChip': WHATEVER THE INPUT: true; the input reads as it did. -/
def fnExactMoveChipSpec : ChangeSpec := { name := "fnExactMoveChip", fn := fun _ => fun
  | [d1, d2, d3, d4] => { results := [.lit (.bool true)], args := [d1, d2, d3, d4] }
  | _ => none }
def fnExactMoveChipRow : OpenClaim := { program := "ytjinpagnbflmiaa", sum := "8fb7cf90b39b915b4f1656f86acd79d8a151088a80ab709fbe02c0a8c989e2f7", func := "loop.example/g01162/laws.FnExactMoveChip", spec := "fnExactMoveChip", unfollowed := true, recurses := true, apart := false }
def FnExactMoveChipSaid : Prop := fnExactMoveChipRow.holds Try.pinned (OpenSpec.ofChange fnExactMoveChipSpec)

/-- ITS FALSE NEIGHBOUR: 'it returns false'. Refute it at one input. -/
def fnExactMoveChipWrong : ChangeSpec := { name := "fnExactMoveChip", fn := fun _ => fun
  | [d1, d2, d3, d4] => { results := [.lit (.bool false)], args := [d1, d2, d3, d4] }
  | _ => none }
def FnExactMoveChipWrongFalsely : Prop := fnExactMoveChipRow.holds Try.pinned (OpenSpec.ofChange fnExactMoveChipWrong)

/-- 'laws.FnExactTreeOfStacks': WHATEVER THE INPUT: true; the input reads as it did. -/
def fnExactTreeOfStacksSpec : ChangeSpec := { name := "fnExactTreeOfStacks", fn := fun _ => fun
  | [d1, d2, d3] => { results := [.lit (.bool true)], args := [d1, d2, d3] }
  | _ => none }
def fnExactTreeOfStacksRow : OpenClaim := { program := "ytjinpagnbflmiaa", sum := "8fb7cf90b39b915b4f1656f86acd79d8a151088a80ab709fbe02c0a8c989e2f7", func := "loop.example/g01162/laws.FnExactTreeOfStacks", spec := "fnExactTreeOfStacks", unfollowed := true, recurses := true, apart := false }
def FnExactTreeOfStacksSaid : Prop := fnExactTreeOfStacksRow.holds Try.pinned (OpenSpec.ofChange fnExactTreeOfStacksSpec)

/-- ITS FALSE NEIGHBOUR: 'it returns false'. Refute it at one input. -/
def fnExactTreeOfStacksWrong : ChangeSpec := { name := "fnExactTreeOfStacks", fn := fun _ => fun
  | [d1, d2, d3] => { results := [.lit (.bool false)], args := [d1, d2, d3] }
  | _ => none }
def FnExactTreeOfStacksWrongFalsely : Prop := fnExactTreeOfStacksRow.holds Try.pinned (OpenSpec.ofChange fnExactTreeOfStacksWrong)

/-- 'laws.FnExactPopsOf': WHATEVER THE INPUT: true; the input reads as it did. -/
def fnExactPopsOfSpec : ChangeSpec := { name := "fnExactPopsOf", fn := fun _ => fun
  | [d1, d2, d3] => { results := [.lit (.bool true)], args := [d1, d2, d3] }
  | _ => none }
def fnExactPopsOfRow : OpenClaim := { program := "ytjinpagnbflmiaa", sum := "8fb7cf90b39b915b4f1656f86acd79d8a151088a80ab709fbe02c0a8c989e2f7", func := "loop.example/g01162/laws.FnExactPopsOf", spec := "fnExactPopsOf", unfollowed := true, recurses := true, apart := false }
def FnExactPopsOfSaid : Prop := fnExactPopsOfRow.holds Try.pinned (OpenSpec.ofChange fnExactPopsOfSpec)

/-- ITS FALSE NEIGHBOUR: 'it returns false'. Refute it at one input. -/
def fnExactPopsOfWrong : ChangeSpec := { name := "fnExactPopsOf", fn := fun _ => fun
  | [d1, d2, d3] => { results := [.lit (.bool false)], args := [d1, d2, d3] }
  | _ => none }
def FnExactPopsOfWrongFalsely : Prop := fnExactPopsOfRow.holds Try.pinned (OpenSpec.ofChange fnExactPopsOfWrong)

/-- 'laws.FnExactPopAll': WHATEVER THE INPUT: true; the input reads as it did. -/
def fnExactPopAllSpec : ChangeSpec := { name := "fnExactPopAll", fn := fun _ => fun
  | [d1, d2, d3, d4] => { results := [.lit (.bool true)], args := [d1, d2, d3, d4] }
  | _ => none }
def fnExactPopAllRow : OpenClaim := { program := "ytjinpagnbflmiaa", sum := "8fb7cf90b39b915b4f1656f86acd79d8a151088a80ab709fbe02c0a8c989e2f7", func := "loop.example/g01162/laws.FnExactPopAll", spec := "fnExactPopAll", unfollowed := true, recurses := true, apart := false }
def FnExactPopAllSaid : Prop := fnExactPopAllRow.holds Try.pinned (OpenSpec.ofChange fnExactPopAllSpec)

/-- ITS FALSE NEIGHBOUR: 'it returns false'. Refute it at one input. -/
def fnExactPopAllWrong : ChangeSpec := { name := "fnExactPopAll", fn := fun _ => fun
  | [d1, d2, d3, d4] => { results := [.lit (.bool false)], args := [d1, d2, d3, d4] }
  | _ => none }
def FnExactPopAllWrongFalsely : Prop := fnExactPopAllRow.holds Try.pinned (OpenSpec.ofChange fnExactPopAllWrong)

/-- 'laws.FnExactEndOfLoad': WHATEVER THE INPUT: true; the input reads as it did. -/
def fnExactEndOfLoadSpec : ChangeSpec := { name := "fnExactEndOfLoad", fn := fun _ => fun
  | [d1, d2, d3, d4] => { results := [.lit (.bool true)], args := [d1, d2, d3, d4] }
  | _ => none }
def fnExactEndOfLoadRow : OpenClaim := { program := "ytjinpagnbflmiaa", sum := "8fb7cf90b39b915b4f1656f86acd79d8a151088a80ab709fbe02c0a8c989e2f7", func := "loop.example/g01162/laws.FnExactEndOfLoad", spec := "fnExactEndOfLoad", unfollowed := true, recurses := true, apart := false }
def FnExactEndOfLoadSaid : Prop := fnExactEndOfLoadRow.holds Try.pinned (OpenSpec.ofChange fnExactEndOfLoadSpec)

/-- ITS FALSE NEIGHBOUR: 'it returns false'. Refute it at one input. -/
def fnExactEndOfLoadWrong : ChangeSpec := { name := "fnExactEndOfLoad", fn := fun _ => fun
  | [d1, d2, d3, d4] => { results := [.lit (.bool false)], args := [d1, d2, d3, d4] }
  | _ => none }
def FnExactEndOfLoadWrongFalsely : Prop := fnExactEndOfLoadRow.holds Try.pinned (OpenSpec.ofChange fnExactEndOfLoadWrong)

/- THE SECOND FORM. 'bulk': how many values and letters a reading holds, each counted each time it is reached (what is shared counts as often as it is met; a slice's spare places count too). A statement '..UptoSaid' is the law's where the arguments, and the package variables that the reading takes, are together of bulk at most 1048576: NARROWER than '..Said'. Prove '..Said' where nothing that the law and all that it calls make is longer than what came in: it says more and counts as full. Else prove '..UptoSaid'. A law counts once. -/
mutual
def uptoBulk {H : Type} : DataW H → Nat
  | .lit (.string bytes) => bytes.length + 1
  | .lit _ => 1
  | .nil => 1
  | .ptr d => uptoBulk d + 1
  | .slice elems spare => uptoBulkAll elems + uptoBulkAll spare + 1
  | .agg parts => uptoBulkAll parts + 1
  | .iface _ d => uptoBulk d + 1
  | .map entries => uptoBulkEntries entries + 1
  | .held _ => 1
def uptoBulkAll {H : Type} : List (DataW H) → Nat
  | [] => 0
  | d :: r => uptoBulk d + uptoBulkAll r
def uptoBulkEntries {H : Type} : List (Lit × DataW H) → Nat
  | [] => 0
  | x :: r => uptoBulkEntry x + uptoBulkEntries r
def uptoBulkEntry {H : Type} : Lit × DataW H → Nat
  | (.string bytes, d) => bytes.length + uptoBulk d + 1
  | (_, d) => uptoBulk d + 1
 end
def uptoSmall : (H : Type) → List (DataW H) → Bool := fun _ ds => decide (uptoBulkAll ds ≤ 1048576)
def OpenSpec.upto (s : _root_.Go.ChangeSpec) : _root_.Go.OpenSpec := { _root_.Go.OpenSpec.ofChange s with cond := some uptoSmall }

/-- 'laws.FnExactUsesOf', WHERE WHAT IT READS IS OF BULK AT MOST 1048576: true; the input reads as it did. -/
def fnExactUsesOfUptoRow : OpenClaim := { program := "ytjinpagnbflmiaa", sum := "8fb7cf90b39b915b4f1656f86acd79d8a151088a80ab709fbe02c0a8c989e2f7", func := "loop.example/g01162/laws.FnExactUsesOf", spec := "fnExactUsesOf", unfollowed := true, recurses := true, apart := false, narrowed := true }
def FnExactUsesOfUptoSaid : Prop := fnExactUsesOfUptoRow.holds Try.pinned (OpenSpec.upto fnExactUsesOfSpec)

/-- 'laws.FnExactToUnicycle', WHERE WHAT IT READS IS OF BULK AT MOST 1048576: true; the input reads as it did. -/
def fnExactToUnicycleUptoRow : OpenClaim := { program := "ytjinpagnbflmiaa", sum := "8fb7cf90b39b915b4f1656f86acd79d8a151088a80ab709fbe02c0a8c989e2f7", func := "loop.example/g01162/laws.FnExactToUnicycle", spec := "fnExactToUnicycle", unfollowed := true, recurses := true, apart := false, narrowed := true }
def FnExactToUnicycleUptoSaid : Prop := fnExactToUnicycleUptoRow.holds Try.pinned (OpenSpec.upto fnExactToUnicycleSpec)

/-- 'laws.FnExactPopCycle', WHERE WHAT IT READS IS OF BULK AT MOST 1048576: true; the input reads as it did. -/
def fnExactPopCycleUptoRow : OpenClaim := { program := "ytjinpagnbflmiaa", sum := "8fb7cf90b39b915b4f1656f86acd79d8a151088a80ab709fbe02c0a8c989e2f7", func := "loop.example/g01162/laws.FnExactPopCycle", spec := "fnExactPopCycle", unfollowed := true, recurses := true, apart := false, narrowed := true }
def FnExactPopCycleUptoSaid : Prop := fnExactPopCycleUptoRow.holds Try.pinned (OpenSpec.upto fnExactPopCycleSpec)

/-- 'laws.FnExactCountPops', WHERE WHAT IT READS IS OF BULK AT MOST 1048576: true; the input reads as it did. -/
def fnExactCountPopsUptoRow : OpenClaim := { program := "ytjinpagnbflmiaa", sum := "8fb7cf90b39b915b4f1656f86acd79d8a151088a80ab709fbe02c0a8c989e2f7", func := "loop.example/g01162/laws.FnExactCountPops", spec := "fnExactCountPops", unfollowed := true, recurses := true, apart := false, narrowed := true }
def FnExactCountPopsUptoSaid : Prop := fnExactCountPopsUptoRow.holds Try.pinned (OpenSpec.upto fnExactCountPopsSpec)

/-- 'laws.FnExactAreEnough', WHERE WHAT IT READS IS OF BULK AT MOST 1048576: true; the input reads as it did. -/
def fnExactAreEnoughUptoRow : OpenClaim := { program := "ytjinpagnbflmiaa", sum := "8fb7cf90b39b915b4f1656f86acd79d8a151088a80ab709fbe02c0a8c989e2f7", func := "loop.example/g01162/laws.FnExactAreEnough", spec := "fnExactAreEnough", unfollowed := true, recurses := true, apart := false, narrowed := true }
def FnExactAreEnoughUptoSaid : Prop := fnExactAreEnoughUptoRow.holds Try.pinned (OpenSpec.upto fnExactAreEnoughSpec)

/-- 'laws.FnExactMoveInOrder', WHERE WHAT IT READS IS OF BULK AT MOST 1048576: true; the input reads as it did. -/
def fnExactMoveInOrderUptoRow : OpenClaim := { program := "ytjinpagnbflmiaa", sum := "8fb7cf90b39b915b4f1656f86acd79d8a151088a80ab709fbe02c0a8c989e2f7", func := "loop.example/g01162/laws.FnExactMoveInOrder", spec := "fnExactMoveInOrder", unfollowed := true, recurses := true, apart := false, narrowed := true }
def FnExactMoveInOrderUptoSaid : Prop := fnExactMoveInOrderUptoRow.holds Try.pinned (OpenSpec.upto fnExactMoveInOrderSpec)

/-- 'laws.FnExactForceMoves', WHERE WHAT IT READS IS OF BULK AT MOST 1048576: true; the input reads as it did. -/
def fnExactForceMovesUptoRow : OpenClaim := { program := "ytjinpagnbflmiaa", sum := "8fb7cf90b39b915b4f1656f86acd79d8a151088a80ab709fbe02c0a8c989e2f7", func := "loop.example/g01162/laws.FnExactForceMoves", spec := "fnExactForceMoves", unfollowed := true, recurses := true, apart := false, narrowed := true }
def FnExactForceMovesUptoSaid : Prop := fnExactForceMovesUptoRow.holds Try.pinned (OpenSpec.upto fnExactForceMovesSpec)

/-- 'laws.FnExactMoveChip', WHERE WHAT IT READS IS OF BULK AT MOST 1048576: true; the input reads as it did. -/
def fnExactMoveChipUptoRow : OpenClaim := { program := "ytjinpagnbflmiaa", sum := "8fb7cf90b39b915b4f1656f86acd79d8a151088a80ab709fbe02c0a8c989e2f7", func := "loop.example/g01162/laws.FnExactMoveChip", spec := "fnExactMoveChip", unfollowed := true, recurses := true, apart := false, narrowed := true }
def FnExactMoveChipUptoSaid : Prop := fnExactMoveChipUptoRow.holds Try.pinned (OpenSpec.upto fnExactMoveChipSpec)

/-- 'laws.FnExactTreeOfStacks', WHERE WHAT IT READS IS OF BULK AT MOST 1048576: true; the input reads as it did. -/
def fnExactTreeOfStacksUptoRow : OpenClaim := { program := "ytjinpagnbflmiaa", sum := "8fb7cf90b39b915b4f1656f86acd79d8a151088a80ab709fbe02c0a8c989e2f7", func := "loop.example/g01162/laws.FnExactTreeOfStacks", spec := "fnExactTreeOfStacks", unfollowed := true, recurses := true, apart := false, narrowed := true }
def FnExactTreeOfStacksUptoSaid : Prop := fnExactTreeOfStacksUptoRow.holds Try.pinned (OpenSpec.upto fnExactTreeOfStacksSpec)

/-- 'laws.FnExactPopsOf', WHERE WHAT IT READS IS OF BULK AT MOST 1048576: true; the input reads as it did. -/
def fnExactPopsOfUptoRow : OpenClaim := { program := "ytjinpagnbflmiaa", sum := "8fb7cf90b39b915b4f1656f86acd79d8a151088a80ab709fbe02c0a8c989e2f7", func := "loop.example/g01162/laws.FnExactPopsOf", spec := "fnExactPopsOf", unfollowed := true, recurses := true, apart := false, narrowed := true }
def FnExactPopsOfUptoSaid : Prop := fnExactPopsOfUptoRow.holds Try.pinned (OpenSpec.upto fnExactPopsOfSpec)

/-- 'laws.FnExactPopAll', WHERE WHAT IT READS IS OF BULK AT MOST 1048576: true; the input reads as it did. -/
def fnExactPopAllUptoRow : OpenClaim := { program := "ytjinpagnbflmiaa", sum := "8fb7cf90b39b915b4f1656f86acd79d8a151088a80ab709fbe02c0a8c989e2f7", func := "loop.example/g01162/laws.FnExactPopAll", spec := "fnExactPopAll", unfollowed := true, recurses := true, apart := false, narrowed := true }
def FnExactPopAllUptoSaid : Prop := fnExactPopAllUptoRow.holds Try.pinned (OpenSpec.upto fnExactPopAllSpec)

/-- 'laws.FnExactEndOfLoad', WHERE WHAT IT READS IS OF BULK AT MOST 1048576: true; the input reads as it did. -/
def fnExactEndOfLoadUptoRow : OpenClaim := { program := "ytjinpagnbflmiaa", sum := "8fb7cf90b39b915b4f1656f86acd79d8a151088a80ab709fbe02c0a8c989e2f7", func := "loop.example/g01162/laws.FnExactEndOfLoad", spec := "fnExactEndOfLoad", unfollowed := true, recurses := true, apart := false, narrowed := true }
def FnExactEndOfLoadUptoSaid : Prop := fnExactEndOfLoadUptoRow.holds Try.pinned (OpenSpec.upto fnExactEndOfLoadSpec)

end Rows
end Go.Proofs.Ytjinpagnbflmiaa
