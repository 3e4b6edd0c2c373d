/-
  DERIVED. GIVEN WITH THE SEED: THE CARDS: each row of YtgiamamfnpklkaaGreatDoorRows.lean that lists a variable, with what it lists TIED to the program's text (the seventh form; the later family's looks); each row that meets fmt, with fmt's text TOLD by the authors' own Lean function (tested against real Go, not proved from fmt's source: count such statements apart). THE CARD IS WHAT COUNTS. Prove the row's statement (the work); the ties are given (YtgiamamfnpklkaaGreatDoorTie.lean); close each card by the builder's one call (the guide's Derived/Test/ToyasCard.lean, 'card_holds'). Laid BY PROGRAM, IN A SANDBOX (cutbox-door.mjs). By AI agents, Wed Nov 11 2026. No macro, syntax, notation, axiom, sorry.
-/
import Derived.Test.YtgiamamfnpklkaaGreatDoorRows
import GoSem.ClaimSeven
namespace Go.Proofs.YtgiamamfnpklkaaGreatDoor
namespace Rows

/-- THE TIED CARD OF 'laws.FnGraphsTaken'. -/
def fnGraphsTakenCard : Claim7 := { stood := { row := fnGraphsTakenRow, standIns := [], harness := (true, "6d1789ca1eb8bfeca8210c1fda6c5e9b3340c8f7c2f81c4944173126afe6a1b2"), looks := true }, kinds := [], alts := [], laidByText := true, laidKinds := [.data, .data, .data, .data, .sentinel, .sentinel, .pinned], laidTests := true, laidLooks := .later }
def FnGraphsTakenCardSaid : Prop := Claim7.holds Tryz.pinned (.plain (OpenSpec.ofChange fnGraphsTakenSpec)) fnGraphsTakenCard

/-- THE SECOND FORM's CARD OF 'laws.FnGraphsTaken'. -/
def fnGraphsTakenUptoCard : Claim7 := { stood := { row := fnGraphsTakenUptoRow, standIns := [], harness := (true, "6d1789ca1eb8bfeca8210c1fda6c5e9b3340c8f7c2f81c4944173126afe6a1b2"), looks := true }, kinds := [], alts := [], laidByText := true, laidKinds := [.data, .data, .data, .data, .sentinel, .sentinel, .pinned], laidTests := true, laidLooks := .later }
def FnGraphsTakenUptoCardSaid : Prop := Claim7.holds Tryz.pinned (.plain (OpenSpec.upto fnGraphsTakenSpec)) fnGraphsTakenUptoCard
end Rows
end Go.Proofs.YtgiamamfnpklkaaGreatDoor
