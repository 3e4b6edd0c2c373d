/-
  No cell of these rows narrows 'for every input' (looked for: loops, veiled, ifaces, maps, wideKeys, modest, calm, conditions, laid).
  DERIVED. THE GIVEN ROWS OF THIS SEAT. 12 by the template 'for every input the law returns true; each argument reads behind the call as it read before'; 0 by the template 'total and deterministic' (their statements: YtkphbhochacllaaTotals.lean).
  GIVEN WITH THE SEED: the statements are not yours to turn. If you find one false, say at which input.
  Laid BY PROGRAM, IN A SANDBOX (cutbox-rows.mjs): the forced cells as the released guide's own fill.sh prints them over the translation 528058e9dd3f099d… (all of the seat's roots in one cut). By AI agents, Wed Nov 11 2026. No macro, syntax, notation, axiom, sorry.
-/
import Derived.Test.YtkphbhochacllaaChecked
import GoSem.Claim
import GoSem.ClaimJoined
import GoSem.ClaimMapViews
import Derived.JoinedTies
import Derived.KernelRfl
namespace Go.Proofs.Ytkphbhochacllaa
/- THE CELL 'sum', in the pinned program and in every row, IS THE sha256 OF THE DUMP (.gsa) THAT YtkphbhochacllaaProg.lean LOADS. Nothing in Lean hashes anything: it is a label: what it is worth is what the hold of that sum in a sandbox is worth. -/
noncomputable def Try.pinned : Pinned := { name := "ytkphbhochacllaa", sum := "528058e9dd3f099d85d003b06a5f9f255ae4109f2fe74a8af28436804a8ead3d", checked := Try.checked }
namespace Rows
def none {H : Type} : Left H := { results := [], args := [] }

/-- 'laws.FnExactFirstDesk': WHATEVER THE INPUT: true; the input reads as it did. -/
def fnExactFirstDeskSpec : ChangeSpec := { name := "fnExactFirstDesk", fn := fun _ => fun
  | [] => { results := [.lit (.bool true)], args := [] }
  | _ => none }
def fnExactFirstDeskRow : OpenClaim := { program := "ytkphbhochacllaa", sum := "528058e9dd3f099d85d003b06a5f9f255ae4109f2fe74a8af28436804a8ead3d", func := "loop.example/g01162/laws.FnExactFirstDesk", spec := "fnExactFirstDesk", apart := false }
def FnExactFirstDeskSaid : Prop := fnExactFirstDeskRow.holds Try.pinned (OpenSpec.ofChange fnExactFirstDeskSpec)

/-- ITS FALSE NEIGHBOUR: 'it returns false'. Refute it at one input. -/
def fnExactFirstDeskWrong : ChangeSpec := { name := "fnExactFirstDesk", fn := fun _ => fun
  | [] => { results := [.lit (.bool false)], args := [] }
  | _ => none }
def FnExactFirstDeskWrongFalsely : Prop := fnExactFirstDeskRow.holds Try.pinned (OpenSpec.ofChange fnExactFirstDeskWrong)

/-- 'laws.FnExactIsDesk': WHATEVER THE INPUT: true; the input reads as it did. -/
def fnExactIsDeskSpec : ChangeSpec := { name := "fnExactIsDesk", fn := fun _ => fun
  | [d] => { results := [.lit (.bool true)], args := [d] }
  | _ => none }
def fnExactIsDeskRow : OpenClaim := { program := "ytkphbhochacllaa", sum := "528058e9dd3f099d85d003b06a5f9f255ae4109f2fe74a8af28436804a8ead3d", func := "loop.example/g01162/laws.FnExactIsDesk", spec := "fnExactIsDesk", unfollowed := true, recurses := true, apart := false }
def FnExactIsDeskSaid : Prop := fnExactIsDeskRow.holds Try.pinned (OpenSpec.ofChange fnExactIsDeskSpec)

/-- ITS FALSE NEIGHBOUR: 'it returns false'. Refute it at one input. -/
def fnExactIsDeskWrong : ChangeSpec := { name := "fnExactIsDesk", fn := fun _ => fun
  | [d] => { results := [.lit (.bool false)], args := [d] }
  | _ => none }
def FnExactIsDeskWrongFalsely : Prop := fnExactIsDeskRow.holds Try.pinned (OpenSpec.ofChange fnExactIsDeskWrong)

/-- 'laws.FnExactAddExit': WHATEVER THE INPUT: true; the input reads as it did. -/
def fnExactAddExitSpec : ChangeSpec := { name := "fnExactAddExit", fn := fun _ => fun
  | [d1, d2, d3] => { results := [.lit (.bool true)], args := [d1, d2, d3] }
  | _ => none }
def fnExactAddExitRow : OpenClaim := { program := "ytkphbhochacllaa", sum := "528058e9dd3f099d85d003b06a5f9f255ae4109f2fe74a8af28436804a8ead3d", func := "loop.example/g01162/laws.FnExactAddExit", spec := "fnExactAddExit", unfollowed := true, recurses := true, apart := false }
def FnExactAddExitSaid : Prop := fnExactAddExitRow.holds Try.pinned (OpenSpec.ofChange fnExactAddExitSpec)

/-- ITS FALSE NEIGHBOUR: 'it returns false'. Refute it at one input. -/
def fnExactAddExitWrong : ChangeSpec := { name := "fnExactAddExit", fn := fun _ => fun
  | [d1, d2, d3] => { results := [.lit (.bool false)], args := [d1, d2, d3] }
  | _ => none }
def FnExactAddExitWrongFalsely : Prop := fnExactAddExitRow.holds Try.pinned (OpenSpec.ofChange fnExactAddExitWrong)

/-- 'laws.FnExactTurnExits': WHATEVER THE INPUT: true; the input reads as it did. -/
def fnExactTurnExitsSpec : ChangeSpec := { name := "fnExactTurnExits", fn := fun _ => fun
  | [d1, d2, d3] => { results := [.lit (.bool true)], args := [d1, d2, d3] }
  | _ => none }
def fnExactTurnExitsRow : OpenClaim := { program := "ytkphbhochacllaa", sum := "528058e9dd3f099d85d003b06a5f9f255ae4109f2fe74a8af28436804a8ead3d", func := "loop.example/g01162/laws.FnExactTurnExits", spec := "fnExactTurnExits", unfollowed := true, recurses := true, apart := false }
def FnExactTurnExitsSaid : Prop := fnExactTurnExitsRow.holds Try.pinned (OpenSpec.ofChange fnExactTurnExitsSpec)

/-- ITS FALSE NEIGHBOUR: 'it returns false'. Refute it at one input. -/
def fnExactTurnExitsWrong : ChangeSpec := { name := "fnExactTurnExits", fn := fun _ => fun
  | [d1, d2, d3] => { results := [.lit (.bool false)], args := [d1, d2, d3] }
  | _ => none }
def FnExactTurnExitsWrongFalsely : Prop := fnExactTurnExitsRow.holds Try.pinned (OpenSpec.ofChange fnExactTurnExitsWrong)

/-- 'laws.FnExactHitTime': WHATEVER THE INPUT: true; the input reads as it did. -/
def fnExactHitTimeSpec : ChangeSpec := { name := "fnExactHitTime", fn := fun _ => fun
  | [d1, d2, d3] => { results := [.lit (.bool true)], args := [d1, d2, d3] }
  | _ => none }
def fnExactHitTimeRow : OpenClaim := { program := "ytkphbhochacllaa", sum := "528058e9dd3f099d85d003b06a5f9f255ae4109f2fe74a8af28436804a8ead3d", func := "loop.example/g01162/laws.FnExactHitTime", spec := "fnExactHitTime", unfollowed := true, recurses := true, apart := false }
def FnExactHitTimeSaid : Prop := fnExactHitTimeRow.holds Try.pinned (OpenSpec.ofChange fnExactHitTimeSpec)

/-- ITS FALSE NEIGHBOUR: 'it returns false'. Refute it at one input. -/
def fnExactHitTimeWrong : ChangeSpec := { name := "fnExactHitTime", fn := fun _ => fun
  | [d1, d2, d3] => { results := [.lit (.bool false)], args := [d1, d2, d3] }
  | _ => none }
def FnExactHitTimeWrongFalsely : Prop := fnExactHitTimeRow.holds Try.pinned (OpenSpec.ofChange fnExactHitTimeWrong)

/-- 'laws.FnExactCoverTime': WHATEVER THE INPUT: true; the input reads as it did. -/
def fnExactCoverTimeSpec : ChangeSpec := { name := "fnExactCoverTime", fn := fun _ => fun
  | [d1, d2] => { results := [.lit (.bool true)], args := [d1, d2] }
  | _ => none }
def fnExactCoverTimeRow : OpenClaim := { program := "ytkphbhochacllaa", sum := "528058e9dd3f099d85d003b06a5f9f255ae4109f2fe74a8af28436804a8ead3d", func := "loop.example/g01162/laws.FnExactCoverTime", spec := "fnExactCoverTime", unfollowed := true, recurses := true, apart := false }
def FnExactCoverTimeSaid : Prop := fnExactCoverTimeRow.holds Try.pinned (OpenSpec.ofChange fnExactCoverTimeSpec)

/-- ITS FALSE NEIGHBOUR: 'it returns false'. Refute it at one input. -/
def fnExactCoverTimeWrong : ChangeSpec := { name := "fnExactCoverTime", fn := fun _ => fun
  | [d1, d2] => { results := [.lit (.bool false)], args := [d1, d2] }
  | _ => none }
def FnExactCoverTimeWrongFalsely : Prop := fnExactCoverTimeRow.holds Try.pinned (OpenSpec.ofChange fnExactCoverTimeWrong)

/-- 'laws.FnExactIsRecurrent': WHATEVER THE INPUT: true; the input reads as it did. -/
def fnExactIsRecurrentSpec : ChangeSpec := { name := "fnExactIsRecurrent", fn := fun _ => fun
  | [d1, d2] => { results := [.lit (.bool true)], args := [d1, d2] }
  | _ => none }
def fnExactIsRecurrentRow : OpenClaim := { program := "ytkphbhochacllaa", sum := "528058e9dd3f099d85d003b06a5f9f255ae4109f2fe74a8af28436804a8ead3d", func := "loop.example/g01162/laws.FnExactIsRecurrent", spec := "fnExactIsRecurrent", unfollowed := true, recurses := true, apart := false }
def FnExactIsRecurrentSaid : Prop := fnExactIsRecurrentRow.holds Try.pinned (OpenSpec.ofChange fnExactIsRecurrentSpec)

/-- ITS FALSE NEIGHBOUR: 'it returns false'. Refute it at one input. -/
def fnExactIsRecurrentWrong : ChangeSpec := { name := "fnExactIsRecurrent", fn := fun _ => fun
  | [d1, d2] => { results := [.lit (.bool false)], args := [d1, d2] }
  | _ => none }
def FnExactIsRecurrentWrongFalsely : Prop := fnExactIsRecurrentRow.holds Try.pinned (OpenSpec.ofChange fnExactIsRecurrentWrong)

/-- 'laws.FnExactWalksBefore': WHATEVER THE INPUT: true; the input reads as it did. -/
def fnExactWalksBeforeSpec : ChangeSpec := { name := "fnExactWalksBefore", fn := fun _ => fun
  | [d1, d2] => { results := [.lit (.bool true)], args := [d1, d2] }
  | _ => none }
def fnExactWalksBeforeRow : OpenClaim := { program := "ytkphbhochacllaa", sum := "528058e9dd3f099d85d003b06a5f9f255ae4109f2fe74a8af28436804a8ead3d", func := "loop.example/g01162/laws.FnExactWalksBefore", spec := "fnExactWalksBefore", unfollowed := true, recurses := true, apart := false }
def FnExactWalksBeforeSaid : Prop := fnExactWalksBeforeRow.holds Try.pinned (OpenSpec.ofChange fnExactWalksBeforeSpec)

/-- ITS FALSE NEIGHBOUR: 'it returns false'. Refute it at one input. -/
def fnExactWalksBeforeWrong : ChangeSpec := { name := "fnExactWalksBefore", fn := fun _ => fun
  | [d1, d2] => { results := [.lit (.bool false)], args := [d1, d2] }
  | _ => none }
def FnExactWalksBeforeWrongFalsely : Prop := fnExactWalksBeforeRow.holds Try.pinned (OpenSpec.ofChange fnExactWalksBeforeWrong)

/-- 'laws.FnExactStepOf': WHATEVER THE INPUT: true; the input reads as it did. -/
def fnExactStepOfSpec : ChangeSpec := { name := "fnExactStepOf", fn := fun _ => fun
  | [d1, d2] => { results := [.lit (.bool true)], args := [d1, d2] }
  | _ => none }
def fnExactStepOfRow : OpenClaim := { program := "ytkphbhochacllaa", sum := "528058e9dd3f099d85d003b06a5f9f255ae4109f2fe74a8af28436804a8ead3d", func := "loop.example/g01162/laws.FnExactStepOf", spec := "fnExactStepOf", unfollowed := true, recurses := true, apart := false }
def FnExactStepOfSaid : Prop := fnExactStepOfRow.holds Try.pinned (OpenSpec.ofChange fnExactStepOfSpec)

/-- ITS FALSE NEIGHBOUR: 'it returns false'. Refute it at one input. -/
def fnExactStepOfWrong : ChangeSpec := { name := "fnExactStepOf", fn := fun _ => fun
  | [d1, d2] => { results := [.lit (.bool false)], args := [d1, d2] }
  | _ => none }
def FnExactStepOfWrongFalsely : Prop := fnExactStepOfRow.holds Try.pinned (OpenSpec.ofChange fnExactStepOfWrong)

/-- 'laws.FnExactPlacesPassed': WHATEVER THE INPUT: true; the input reads as it did. -/
def fnExactPlacesPassedSpec : ChangeSpec := { name := "fnExactPlacesPassed", fn := fun _ => fun
  | [d1, d2, d3] => { results := [.lit (.bool true)], args := [d1, d2, d3] }
  | _ => none }
def fnExactPlacesPassedRow : OpenClaim := { program := "ytkphbhochacllaa", sum := "528058e9dd3f099d85d003b06a5f9f255ae4109f2fe74a8af28436804a8ead3d", func := "loop.example/g01162/laws.FnExactPlacesPassed", spec := "fnExactPlacesPassed", unfollowed := true, recurses := true, apart := false }
def FnExactPlacesPassedSaid : Prop := fnExactPlacesPassedRow.holds Try.pinned (OpenSpec.ofChange fnExactPlacesPassedSpec)

/-- ITS FALSE NEIGHBOUR: 'it returns false'. Refute it at one input. -/
def fnExactPlacesPassedWrong : ChangeSpec := { name := "fnExactPlacesPassed", fn := fun _ => fun
  | [d1, d2, d3] => { results := [.lit (.bool false)], args := [d1, d2, d3] }
  | _ => none }
def FnExactPlacesPassedWrongFalsely : Prop := fnExactPlacesPassedRow.holds Try.pinned (OpenSpec.ofChange fnExactPlacesPassedWrong)

/-- 'laws.FnExactVisitsOf': WHATEVER THE INPUT: true; the input reads as it did. -/
def fnExactVisitsOfSpec : ChangeSpec := { name := "fnExactVisitsOf", fn := fun _ => fun
  | [d1, d2, d3] => { results := [.lit (.bool true)], args := [d1, d2, d3] }
  | _ => none }
def fnExactVisitsOfRow : OpenClaim := { program := "ytkphbhochacllaa", sum := "528058e9dd3f099d85d003b06a5f9f255ae4109f2fe74a8af28436804a8ead3d", func := "loop.example/g01162/laws.FnExactVisitsOf", spec := "fnExactVisitsOf", unfollowed := true, recurses := true, apart := false }
def FnExactVisitsOfSaid : Prop := fnExactVisitsOfRow.holds Try.pinned (OpenSpec.ofChange fnExactVisitsOfSpec)

/-- ITS FALSE NEIGHBOUR: 'it returns false'. Refute it at one input. -/
def fnExactVisitsOfWrong : ChangeSpec := { name := "fnExactVisitsOf", fn := fun _ => fun
  | [d1, d2, d3] => { results := [.lit (.bool false)], args := [d1, d2, d3] }
  | _ => none }
def FnExactVisitsOfWrongFalsely : Prop := fnExactVisitsOfRow.holds Try.pinned (OpenSpec.ofChange fnExactVisitsOfWrong)

/-- 'laws.FnExactRunOf': WHATEVER THE INPUT: true; the input reads as it did. -/
def fnExactRunOfSpec : ChangeSpec := { name := "fnExactRunOf", fn := fun _ => fun
  | [d1, d2, d3] => { results := [.lit (.bool true)], args := [d1, d2, d3] }
  | _ => none }
def fnExactRunOfRow : OpenClaim := { program := "ytkphbhochacllaa", sum := "528058e9dd3f099d85d003b06a5f9f255ae4109f2fe74a8af28436804a8ead3d", func := "loop.example/g01162/laws.FnExactRunOf", spec := "fnExactRunOf", unfollowed := true, recurses := true, apart := false }
def FnExactRunOfSaid : Prop := fnExactRunOfRow.holds Try.pinned (OpenSpec.ofChange fnExactRunOfSpec)

/-- ITS FALSE NEIGHBOUR: 'it returns false'. Refute it at one input. -/
def fnExactRunOfWrong : ChangeSpec := { name := "fnExactRunOf", fn := fun _ => fun
  | [d1, d2, d3] => { results := [.lit (.bool false)], args := [d1, d2, d3] }
  | _ => none }
def FnExactRunOfWrongFalsely : Prop := fnExactRunOfRow.holds Try.pinned (OpenSpec.ofChange fnExactRunOfWrong)

/- THE SECOND FORM. 'bulk': how many values and letters a reading holds, each counted each time it is reached (what is shared counts as often as it is met; a slice's spare places count too). A statement '..UptoSaid' is the law's where the arguments, and the package variables that the reading takes, are together of bulk at most 1048576: NARROWER than '..Said'. Prove '..Said' where nothing that the law and all that it calls make is longer than what came in: it says more and counts as full. Else prove '..UptoSaid'. A law counts once. -/
mutual
def uptoBulk {H : Type} : DataW H → Nat
  | .lit (.string bytes) => bytes.length + 1
  | .lit _ => 1
  | .nil => 1
  | .ptr d => uptoBulk d + 1
  | .slice elems spare => uptoBulkAll elems + uptoBulkAll spare + 1
  | .agg parts => uptoBulkAll parts + 1
  | .iface _ d => uptoBulk d + 1
  | .map entries => uptoBulkEntries entries + 1
  | .held _ => 1
def uptoBulkAll {H : Type} : List (DataW H) → Nat
  | [] => 0
  | d :: r => uptoBulk d + uptoBulkAll r
def uptoBulkEntries {H : Type} : List (Lit × DataW H) → Nat
  | [] => 0
  | x :: r => uptoBulkEntry x + uptoBulkEntries r
def uptoBulkEntry {H : Type} : Lit × DataW H → Nat
  | (.string bytes, d) => bytes.length + uptoBulk d + 1
  | (_, d) => uptoBulk d + 1
 end
def uptoSmall : (H : Type) → List (DataW H) → Bool := fun _ ds => decide (uptoBulkAll ds ≤ 1048576)
def OpenSpec.upto (s : _root_.Go.ChangeSpec) : _root_.Go.OpenSpec := { _root_.Go.OpenSpec.ofChange s with cond := some uptoSmall }

/-- 'laws.FnExactFirstDesk', WHERE WHAT IT READS IS OF BULK AT MOST 1048576: true; the input reads as it did. -/
def fnExactFirstDeskUptoRow : OpenClaim := { program := "ytkphbhochacllaa", sum := "528058e9dd3f099d85d003b06a5f9f255ae4109f2fe74a8af28436804a8ead3d", func := "loop.example/g01162/laws.FnExactFirstDesk", spec := "fnExactFirstDesk", apart := false, narrowed := true }
def FnExactFirstDeskUptoSaid : Prop := fnExactFirstDeskUptoRow.holds Try.pinned (OpenSpec.upto fnExactFirstDeskSpec)

/-- 'laws.FnExactIsDesk', WHERE WHAT IT READS IS OF BULK AT MOST 1048576: true; the input reads as it did. -/
def fnExactIsDeskUptoRow : OpenClaim := { program := "ytkphbhochacllaa", sum := "528058e9dd3f099d85d003b06a5f9f255ae4109f2fe74a8af28436804a8ead3d", func := "loop.example/g01162/laws.FnExactIsDesk", spec := "fnExactIsDesk", unfollowed := true, recurses := true, apart := false, narrowed := true }
def FnExactIsDeskUptoSaid : Prop := fnExactIsDeskUptoRow.holds Try.pinned (OpenSpec.upto fnExactIsDeskSpec)

/-- 'laws.FnExactAddExit', WHERE WHAT IT READS IS OF BULK AT MOST 1048576: true; the input reads as it did. -/
def fnExactAddExitUptoRow : OpenClaim := { program := "ytkphbhochacllaa", sum := "528058e9dd3f099d85d003b06a5f9f255ae4109f2fe74a8af28436804a8ead3d", func := "loop.example/g01162/laws.FnExactAddExit", spec := "fnExactAddExit", unfollowed := true, recurses := true, apart := false, narrowed := true }
def FnExactAddExitUptoSaid : Prop := fnExactAddExitUptoRow.holds Try.pinned (OpenSpec.upto fnExactAddExitSpec)

/-- 'laws.FnExactTurnExits', WHERE WHAT IT READS IS OF BULK AT MOST 1048576: true; the input reads as it did. -/
def fnExactTurnExitsUptoRow : OpenClaim := { program := "ytkphbhochacllaa", sum := "528058e9dd3f099d85d003b06a5f9f255ae4109f2fe74a8af28436804a8ead3d", func := "loop.example/g01162/laws.FnExactTurnExits", spec := "fnExactTurnExits", unfollowed := true, recurses := true, apart := false, narrowed := true }
def FnExactTurnExitsUptoSaid : Prop := fnExactTurnExitsUptoRow.holds Try.pinned (OpenSpec.upto fnExactTurnExitsSpec)

/-- 'laws.FnExactHitTime', WHERE WHAT IT READS IS OF BULK AT MOST 1048576: true; the input reads as it did. -/
def fnExactHitTimeUptoRow : OpenClaim := { program := "ytkphbhochacllaa", sum := "528058e9dd3f099d85d003b06a5f9f255ae4109f2fe74a8af28436804a8ead3d", func := "loop.example/g01162/laws.FnExactHitTime", spec := "fnExactHitTime", unfollowed := true, recurses := true, apart := false, narrowed := true }
def FnExactHitTimeUptoSaid : Prop := fnExactHitTimeUptoRow.holds Try.pinned (OpenSpec.upto fnExactHitTimeSpec)

/-- 'laws.FnExactCoverTime', WHERE WHAT IT READS IS OF BULK AT MOST 1048576: true; the input reads as it did. -/
def fnExactCoverTimeUptoRow : OpenClaim := { program := "ytkphbhochacllaa", sum := "528058e9dd3f099d85d003b06a5f9f255ae4109f2fe74a8af28436804a8ead3d", func := "loop.example/g01162/laws.FnExactCoverTime", spec := "fnExactCoverTime", unfollowed := true, recurses := true, apart := false, narrowed := true }
def FnExactCoverTimeUptoSaid : Prop := fnExactCoverTimeUptoRow.holds Try.pinned (OpenSpec.upto fnExactCoverTimeSpec)

/-- 'laws.FnExactIsRecurrent', WHERE WHAT IT READS IS OF BULK AT MOST 1048576: true; the input reads as it did. -/
def fnExactIsRecurrentUptoRow : OpenClaim := { program := "ytkphbhochacllaa", sum := "528058e9dd3f099d85d003b06a5f9f255ae4109f2fe74a8af28436804a8ead3d", func := "loop.example/g01162/laws.FnExactIsRecurrent", spec := "fnExactIsRecurrent", unfollowed := true, recurses := true, apart := false, narrowed := true }
def FnExactIsRecurrentUptoSaid : Prop := fnExactIsRecurrentUptoRow.holds Try.pinned (OpenSpec.upto fnExactIsRecurrentSpec)

/-- 'laws.FnExactWalksBefore', WHERE WHAT IT READS IS OF BULK AT MOST 1048576: true; the input reads as it did. -/
def fnExactWalksBeforeUptoRow : OpenClaim := { program := "ytkphbhochacllaa", sum := "528058e9dd3f099d85d003b06a5f9f255ae4109f2fe74a8af28436804a8ead3d", func := "loop.example/g01162/laws.FnExactWalksBefore", spec := "fnExactWalksBefore", unfollowed := true, recurses := true, apart := false, narrowed := true }
def FnExactWalksBeforeUptoSaid : Prop := fnExactWalksBeforeUptoRow.holds Try.pinned (OpenSpec.upto fnExactWalksBeforeSpec)

/-- 'laws.FnExactStepOf', WHERE WHAT IT READS IS OF BULK AT MOST 1048576: true; the input reads as it did. -/
def fnExactStepOfUptoRow : OpenClaim := { program := "ytkphbhochacllaa", sum := "528058e9dd3f099d85d003b06a5f9f255ae4109f2fe74a8af28436804a8ead3d", func := "loop.example/g01162/laws.FnExactStepOf", spec := "fnExactStepOf", unfollowed := true, recurses := true, apart := false, narrowed := true }
def FnExactStepOfUptoSaid : Prop := fnExactStepOfUptoRow.holds Try.pinned (OpenSpec.upto fnExactStepOfSpec)

/-- 'laws.FnExactPlacesPassed', WHERE WHAT IT READS IS OF BULK AT MOST 1048576: true; the input reads as it did. -/
def fnExactPlacesPassedUptoRow : OpenClaim := { program := "ytkphbhochacllaa", sum := "528058e9dd3f099d85d003b06a5f9f255ae4109f2fe74a8af28436804a8ead3d", func := "loop.example/g01162/laws.FnExactPlacesPassed", spec := "fnExactPlacesPassed", unfollowed := true, recurses := true, apart := false, narrowed := true }
def FnExactPlacesPassedUptoSaid : Prop := fnExactPlacesPassedUptoRow.holds Try.pinned (OpenSpec.upto fnExactPlacesPassedSpec)

/-- 'laws.FnExactVisitsOf', WHERE WHAT IT READS IS OF BULK AT MOST 1048576: true; the input reads as it did. -/
def fnExactVisitsOfUptoRow : OpenClaim := { program := "ytkphbhochacllaa", sum := "528058e9dd3f099d85d003b06a5f9f255ae4109f2fe74a8af28436804a8ead3d", func := "loop.example/g01162/laws.FnExactVisitsOf", spec := "fnExactVisitsOf", unfollowed := true, recurses := true, apart := false, narrowed := true }
def FnExactVisitsOfUptoSaid : Prop := fnExactVisitsOfUptoRow.holds Try.pinned (OpenSpec.upto fnExactVisitsOfSpec)

/-- 'laws.FnExactRunOf', WHERE WHAT IT READS IS OF BULK AT MOST 1048576: true; the input reads as it did. -/
def fnExactRunOfUptoRow : OpenClaim := { program := "ytkphbhochacllaa", sum := "528058e9dd3f099d85d003b06a5f9f255ae4109f2fe74a8af28436804a8ead3d", func := "loop.example/g01162/laws.FnExactRunOf", spec := "fnExactRunOf", unfollowed := true, recurses := true, apart := false, narrowed := true }
def FnExactRunOfUptoSaid : Prop := fnExactRunOfUptoRow.holds Try.pinned (OpenSpec.upto fnExactRunOfSpec)

end Rows
end Go.Proofs.Ytkphbhochacllaa
