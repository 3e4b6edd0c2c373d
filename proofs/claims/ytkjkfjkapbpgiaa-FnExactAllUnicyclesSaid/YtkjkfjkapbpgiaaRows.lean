/-
  No cell of these rows narrows 'for every input' (looked for: loops, veiled, ifaces, maps, wideKeys, modest, calm, conditions, laid).
  DERIVED. THE GIVEN ROWS OF THIS SEAT. 4 by the template 'for every input the law returns true; each argument reads behind the call as it read before'; 0 by the template 'total and deterministic' (their statements: YtkjkfjkapbpgiaaTotals.lean).
  GIVEN WITH THE SEED: the statements are not yours to turn. If you find one false, say at which input.
  Laid BY PROGRAM, IN A SANDBOX (cutbox-rows.mjs): the forced cells as the released guide's own fill.sh prints them over the translation b677c30b86d3e16e… (all of the seat's roots in one cut). By AI agents, Wed Nov 11 2026. No macro, syntax, notation, axiom, sorry.
-/
import Derived.Test.YtkjkfjkapbpgiaaChecked
import GoSem.Claim
import GoSem.ClaimJoined
import GoSem.ClaimMapViews
import Derived.JoinedTies
import Derived.KernelRfl
namespace Go.Proofs.Ytkjkfjkapbpgiaa
/- THE CELL 'sum', in the pinned program and in every row, IS THE sha256 OF THE DUMP (.gsa) THAT YtkjkfjkapbpgiaaProg.lean LOADS. Nothing in Lean hashes anything: it is a label: what it is worth is what the hold of that sum in a sandbox is worth. -/
noncomputable def Try.pinned : Pinned := { name := "ytkjkfjkapbpgiaa", sum := "b677c30b86d3e16ee9b944e1e1f748b1339bafa0e50501eb915f8f0c467b76ff", checked := Try.checked }
namespace Rows
def none {H : Type} : Left H := { results := [], args := [] }

/-- 'laws.FnExactTreeByWalks': WHATEVER THE INPUT: true; the input reads as it did. -/
def fnExactTreeByWalksSpec : ChangeSpec := { name := "fnExactTreeByWalks", fn := fun _ => fun
  | [d1, d2, d3, d4] => { results := [.lit (.bool true)], args := [d1, d2, d3, d4] }
  | _ => none }
def fnExactTreeByWalksRow : OpenClaim := { program := "ytkjkfjkapbpgiaa", sum := "b677c30b86d3e16ee9b944e1e1f748b1339bafa0e50501eb915f8f0c467b76ff", func := "loop.example/g01162/laws.FnExactTreeByWalks", spec := "fnExactTreeByWalks", unfollowed := true, recurses := true, apart := false }
def FnExactTreeByWalksSaid : Prop := fnExactTreeByWalksRow.holds Try.pinned (OpenSpec.ofChange fnExactTreeByWalksSpec)

/-- ITS FALSE NEIGHBOUR: 'it returns false'. Refute it at one input. -/
def fnExactTreeByWalksWrong : ChangeSpec := { name := "fnExactTreeByWalks", fn := fun _ => fun
  | [d1, d2, d3, d4] => { results := [.lit (.bool false)], args := [d1, d2, d3, d4] }
  | _ => none }
def FnExactTreeByWalksWrongFalsely : Prop := fnExactTreeByWalksRow.holds Try.pinned (OpenSpec.ofChange fnExactTreeByWalksWrong)

/-- 'laws.FnExactStepsByWalks': WHATEVER THE INPUT: true; the input reads as it did. -/
def fnExactStepsByWalksSpec : ChangeSpec := { name := "fnExactStepsByWalks", fn := fun _ => fun
  | [d1, d2, d3, d4] => { results := [.lit (.bool true)], args := [d1, d2, d3, d4] }
  | _ => none }
def fnExactStepsByWalksRow : OpenClaim := { program := "ytkjkfjkapbpgiaa", sum := "b677c30b86d3e16ee9b944e1e1f748b1339bafa0e50501eb915f8f0c467b76ff", func := "loop.example/g01162/laws.FnExactStepsByWalks", spec := "fnExactStepsByWalks", unfollowed := true, recurses := true, apart := false }
def FnExactStepsByWalksSaid : Prop := fnExactStepsByWalksRow.holds Try.pinned (OpenSpec.ofChange fnExactStepsByWalksSpec)

/-- ITS FALSE NEIGHBOUR: 'it returns false'. Refute it at one input. -/
def fnExactStepsByWalksWrong : ChangeSpec := { name := "fnExactStepsByWalks", fn := fun _ => fun
  | [d1, d2, d3, d4] => { results := [.lit (.bool false)], args := [d1, d2, d3, d4] }
  | _ => none }
def FnExactStepsByWalksWrongFalsely : Prop := fnExactStepsByWalksRow.holds Try.pinned (OpenSpec.ofChange fnExactStepsByWalksWrong)

/-- 'laws.FnGraphsReached': WHATEVER THE INPUT: true; the input reads as it did. -/
def fnGraphsReachedSpec : ChangeSpec := { name := "fnGraphsReached", fn := fun _ => fun
  | [d1, d2] => { results := [.lit (.bool true)], args := [d1, d2] }
  | _ => none }
def fnGraphsReachedRow : OpenClaim := { program := "ytkjkfjkapbpgiaa", sum := "b677c30b86d3e16ee9b944e1e1f748b1339bafa0e50501eb915f8f0c467b76ff", func := "loop.example/g01162/laws.FnGraphsReached", spec := "fnGraphsReached", unfollowed := true, recurses := true, apart := false }
def FnGraphsReachedSaid : Prop := fnGraphsReachedRow.holds Try.pinned (OpenSpec.ofChange fnGraphsReachedSpec)

/-- ITS FALSE NEIGHBOUR: 'it returns false'. Refute it at one input. -/
def fnGraphsReachedWrong : ChangeSpec := { name := "fnGraphsReached", fn := fun _ => fun
  | [d1, d2] => { results := [.lit (.bool false)], args := [d1, d2] }
  | _ => none }
def FnGraphsReachedWrongFalsely : Prop := fnGraphsReachedRow.holds Try.pinned (OpenSpec.ofChange fnGraphsReachedWrong)

/-- 'laws.FnExactAllUnicycles': WHATEVER THE INPUT: true; the input reads as it did. -/
def fnExactAllUnicyclesSpec : ChangeSpec := { name := "fnExactAllUnicycles", fn := fun _ => fun
  | [d1, d2] => { results := [.lit (.bool true)], args := [d1, d2] }
  | _ => none }
def fnExactAllUnicyclesRow : OpenClaim := { program := "ytkjkfjkapbpgiaa", sum := "b677c30b86d3e16ee9b944e1e1f748b1339bafa0e50501eb915f8f0c467b76ff", func := "loop.example/g01162/laws.FnExactAllUnicycles", spec := "fnExactAllUnicycles", unfollowed := true, recurses := true, apart := false }
def FnExactAllUnicyclesSaid : Prop := fnExactAllUnicyclesRow.holds Try.pinned (OpenSpec.ofChange fnExactAllUnicyclesSpec)

/-- ITS FALSE NEIGHBOUR: 'it returns false'. Refute it at one input. -/
def fnExactAllUnicyclesWrong : ChangeSpec := { name := "fnExactAllUnicycles", fn := fun _ => fun
  | [d1, d2] => { results := [.lit (.bool false)], args := [d1, d2] }
  | _ => none }
def FnExactAllUnicyclesWrongFalsely : Prop := fnExactAllUnicyclesRow.holds Try.pinned (OpenSpec.ofChange fnExactAllUnicyclesWrong)

/- THE SECOND FORM. 'bulk': how many values and letters a reading holds, each counted each time it is reached (what is shared counts as often as it is met; a slice's spare places count too). A statement '..UptoSaid' is the law's where the arguments, and the package variables that the reading takes, are together of bulk at most 1048576: NARROWER than '..Said'. Prove '..Said' where nothing that the law and all that it calls make is longer than what came in: it says more and counts as full. Else prove '..UptoSaid'. A law counts once. -/
mutual
def uptoBulk {H : Type} : DataW H → Nat
  | .lit (.string bytes) => bytes.length + 1
  | .lit _ => 1
  | .nil => 1
  | .ptr d => uptoBulk d + 1
  | .slice elems spare => uptoBulkAll elems + uptoBulkAll spare + 1
  | .agg parts => uptoBulkAll parts + 1
  | .iface _ d => uptoBulk d + 1
  | .map entries => uptoBulkEntries entries + 1
  | .held _ => 1
def uptoBulkAll {H : Type} : List (DataW H) → Nat
  | [] => 0
  | d :: r => uptoBulk d + uptoBulkAll r
def uptoBulkEntries {H : Type} : List (Lit × DataW H) → Nat
  | [] => 0
  | x :: r => uptoBulkEntry x + uptoBulkEntries r
def uptoBulkEntry {H : Type} : Lit × DataW H → Nat
  | (.string bytes, d) => bytes.length + uptoBulk d + 1
  | (_, d) => uptoBulk d + 1
 end
def uptoSmall : (H : Type) → List (DataW H) → Bool := fun _ ds => decide (uptoBulkAll ds ≤ 1048576)
def OpenSpec.upto (s : _root_.Go.ChangeSpec) : _root_.Go.OpenSpec := { _root_.Go.OpenSpec.ofChange s with cond := some uptoSmall }

/-- 'laws.FnExactTreeByWalks', WHERE WHAT IT READS IS OF BULK AT MOST 1048576: true; the input reads as it did. -/
def fnExactTreeByWalksUptoRow : OpenClaim := { program := "ytkjkfjkapbpgiaa", sum := "b677c30b86d3e16ee9b944e1e1f748b1339bafa0e50501eb915f8f0c467b76ff", func := "loop.example/g01162/laws.FnExactTreeByWalks", spec := "fnExactTreeByWalks", unfollowed := true, recurses := true, apart := false, narrowed := true }
def FnExactTreeByWalksUptoSaid : Prop := fnExactTreeByWalksUptoRow.holds Try.pinned (OpenSpec.upto fnExactTreeByWalksSpec)

/-- 'laws.FnExactStepsByWalks', WHERE WHAT IT READS IS OF BULK AT MOST 1048576: true; the input reads as it did. -/
def fnExactStepsByWalksUptoRow : OpenClaim := { program := "ytkjkfjkapbpgiaa", sum := "b677c30b86d3e16ee9b944e1e1f748b1339bafa0e50501eb915f8f0c467b76ff", func := "loop.example/g01162/laws.FnExactStepsByWalks", spec := "fnExactStepsByWalks", unfollowed := true, recurses := true, apart := false, narrowed := true }
def FnExactStepsByWalksUptoSaid : Prop := fnExactStepsByWalksUptoRow.holds Try.pinned (OpenSpec.upto fnExactStepsByWalksSpec)

/-- 'laws.FnGraphsReached', WHERE WHAT IT READS IS OF BULK AT MOST 1048576: true; the input reads as it did. -/
def fnGraphsReachedUptoRow : OpenClaim := { program := "ytkjkfjkapbpgiaa", sum := "b677c30b86d3e16ee9b944e1e1f748b1339bafa0e50501eb915f8f0c467b76ff", func := "loop.example/g01162/laws.FnGraphsReached", spec := "fnGraphsReached", unfollowed := true, recurses := true, apart := false, narrowed := true }
def FnGraphsReachedUptoSaid : Prop := fnGraphsReachedUptoRow.holds Try.pinned (OpenSpec.upto fnGraphsReachedSpec)

/-- 'laws.FnExactAllUnicycles', WHERE WHAT IT READS IS OF BULK AT MOST 1048576: true; the input reads as it did. -/
def fnExactAllUnicyclesUptoRow : OpenClaim := { program := "ytkjkfjkapbpgiaa", sum := "b677c30b86d3e16ee9b944e1e1f748b1339bafa0e50501eb915f8f0c467b76ff", func := "loop.example/g01162/laws.FnExactAllUnicycles", spec := "fnExactAllUnicycles", unfollowed := true, recurses := true, apart := false, narrowed := true }
def FnExactAllUnicyclesUptoSaid : Prop := fnExactAllUnicyclesUptoRow.holds Try.pinned (OpenSpec.upto fnExactAllUnicyclesSpec)

end Rows
end Go.Proofs.Ytkjkfjkapbpgiaa
