/-
  DERIVED. GIVEN WITH THE SEED: THE CARDS: each row of YtkjkfjkapbpgiaaGreatDoorRows.lean that lists a variable, with what it lists TIED to the program's text (the seventh form; the later family's looks); each row that meets fmt, with fmt's text TOLD by the authors' own Lean function (tested against real Go, not proved from fmt's source: count such statements apart). THE CARD IS WHAT COUNTS. Prove the row's statement (the work); the ties are given (YtkjkfjkapbpgiaaGreatDoorTie.lean); close each card by the builder's one call (the guide's Derived/Test/ToyasCard.lean, 'card_holds'). Laid BY PROGRAM, IN A SANDBOX (cutbox-door.mjs). By AI agents, Wed Nov 11 2026. No macro, syntax, notation, axiom, sorry.
-/
import Derived.Test.YtkjkfjkapbpgiaaGreatDoorRows
import GoSem.ClaimSeven
namespace Go.Proofs.YtkjkfjkapbpgiaaGreatDoor
namespace Rows

/-- THE TIED CARD OF 'laws.FnCyclesOnTop'. -/
def fnCyclesOnTopCard : Claim7 := { stood := { row := fnCyclesOnTopRow, standIns := [], harness := (true, "d06ef5cdbd916c686cf6bab3d45dd600b34333eb9b6c79a34d243eadc7058a73"), looks := false }, kinds := [], alts := [], laidByText := true, laidKinds := [.data, .data, .data], laidTests := true, laidLooks := .later }
def FnCyclesOnTopCardSaid : Prop := Claim7.holds Tryz.pinned (.plain (OpenSpec.ofChange fnCyclesOnTopSpec)) fnCyclesOnTopCard

/-- THE TIED CARD OF 'laws.FnWalksComeAgain'. -/
def fnWalksComeAgainCard : Claim7 := { stood := { row := fnWalksComeAgainRow, standIns := [], harness := (true, "d06ef5cdbd916c686cf6bab3d45dd600b34333eb9b6c79a34d243eadc7058a73"), looks := false }, kinds := [], alts := [], laidByText := true, laidKinds := [.data, .data, .data], laidTests := true, laidLooks := .later }
def FnWalksComeAgainCardSaid : Prop := Claim7.holds Tryz.pinned (.plain (OpenSpec.ofChange fnWalksComeAgainSpec)) fnWalksComeAgainCard

/-- THE SECOND FORM's CARD OF 'laws.FnCyclesOnTop'. -/
def fnCyclesOnTopUptoCard : Claim7 := { stood := { row := fnCyclesOnTopUptoRow, standIns := [], harness := (true, "d06ef5cdbd916c686cf6bab3d45dd600b34333eb9b6c79a34d243eadc7058a73"), looks := false }, kinds := [], alts := [], laidByText := true, laidKinds := [.data, .data, .data], laidTests := true, laidLooks := .later }
def FnCyclesOnTopUptoCardSaid : Prop := Claim7.holds Tryz.pinned (.plain (OpenSpec.upto fnCyclesOnTopSpec)) fnCyclesOnTopUptoCard

/-- THE SECOND FORM's CARD OF 'laws.FnWalksComeAgain'. -/
def fnWalksComeAgainUptoCard : Claim7 := { stood := { row := fnWalksComeAgainUptoRow, standIns := [], harness := (true, "d06ef5cdbd916c686cf6bab3d45dd600b34333eb9b6c79a34d243eadc7058a73"), looks := false }, kinds := [], alts := [], laidByText := true, laidKinds := [.data, .data, .data], laidTests := true, laidLooks := .later }
def FnWalksComeAgainUptoCardSaid : Prop := Claim7.holds Tryz.pinned (.plain (OpenSpec.upto fnWalksComeAgainSpec)) fnWalksComeAgainUptoCard
end Rows
end Go.Proofs.YtkjkfjkapbpgiaaGreatDoor
