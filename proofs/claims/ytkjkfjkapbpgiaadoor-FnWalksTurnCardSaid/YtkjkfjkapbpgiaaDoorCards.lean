/-
  DERIVED. GIVEN WITH THE SEED: THE CARDS: each row of YtkjkfjkapbpgiaaDoorRows.lean that lists a variable, with what it lists TIED to the program's text (the seventh form; the later family's looks); each row that meets fmt, with fmt's text TOLD by the authors' own Lean function (tested against real Go, not proved from fmt's source: count such statements apart). THE CARD IS WHAT COUNTS. Prove the row's statement (the work); the ties are given (YtkjkfjkapbpgiaaDoorTie.lean); close each card by the builder's one call (the guide's Derived/Test/ToyasCard.lean, 'card_holds'). Laid BY PROGRAM, IN A SANDBOX (cutbox-door.mjs). By AI agents, Wed Nov 11 2026. No macro, syntax, notation, axiom, sorry.
-/
import Derived.Test.YtkjkfjkapbpgiaaDoorRows
import GoSem.ClaimSeven
namespace Go.Proofs.YtkjkfjkapbpgiaaDoor
namespace Rows

/-- THE TIED CARD OF 'laws.FnExactStacksText'. -/
def fnExactStacksTextCard : Claim7 := { stood := { row := fnExactStacksTextRow, standIns := [], harness := (true, "33085794b91520d759561fc28dbe3e85d6a40980c2900fb90af080e23dcf432d"), looks := false }, kinds := [], alts := [], laidByText := true, laidKinds := [.data, .data, .data], laidTests := true, laidLooks := .later }
def FnExactStacksTextCardSaid : Prop := Claim7.holds Tryd.pinned (.plain (OpenSpec.ofChange fnExactStacksTextSpec)) fnExactStacksTextCard

/-- THE TIED CARD OF 'laws.FnExactPeriodOf'. -/
def fnExactPeriodOfCard : Claim7 := { stood := { row := fnExactPeriodOfRow, standIns := [], harness := (true, "33085794b91520d759561fc28dbe3e85d6a40980c2900fb90af080e23dcf432d"), looks := false }, kinds := [], alts := [], laidByText := true, laidKinds := [.data, .data, .data], laidTests := true, laidLooks := .later }
def FnExactPeriodOfCardSaid : Prop := Claim7.holds Tryd.pinned (.plain (OpenSpec.ofChange fnExactPeriodOfSpec)) fnExactPeriodOfCard

/-- THE TIED CARD OF 'laws.FnWalksTurn'. -/
def fnWalksTurnCard : Claim7 := { stood := { row := fnWalksTurnRow, standIns := [], harness := (true, "33085794b91520d759561fc28dbe3e85d6a40980c2900fb90af080e23dcf432d"), looks := false }, kinds := [], alts := [], laidByText := true, laidKinds := [.data, .data, .data], laidTests := true, laidLooks := .later }
def FnWalksTurnCardSaid : Prop := Claim7.holds Tryd.pinned (.plain (OpenSpec.ofChange fnWalksTurnSpec)) fnWalksTurnCard

/-- THE TIED CARD OF 'laws.FnExactEulerTour'. -/
def fnExactEulerTourCard : Claim7 := { stood := { row := fnExactEulerTourRow, standIns := [], harness := (true, "33085794b91520d759561fc28dbe3e85d6a40980c2900fb90af080e23dcf432d"), looks := false }, kinds := [], alts := [], laidByText := true, laidKinds := [.data, .data, .data], laidTests := true, laidLooks := .later }
def FnExactEulerTourCardSaid : Prop := Claim7.holds Tryd.pinned (.plain (OpenSpec.ofChange fnExactEulerTourSpec)) fnExactEulerTourCard

/-- THE SECOND FORM's CARD OF 'laws.FnExactStacksText'. -/
def fnExactStacksTextUptoCard : Claim7 := { stood := { row := fnExactStacksTextUptoRow, standIns := [], harness := (true, "33085794b91520d759561fc28dbe3e85d6a40980c2900fb90af080e23dcf432d"), looks := false }, kinds := [], alts := [], laidByText := true, laidKinds := [.data, .data, .data], laidTests := true, laidLooks := .later }
def FnExactStacksTextUptoCardSaid : Prop := Claim7.holds Tryd.pinned (.plain (OpenSpec.upto fnExactStacksTextSpec)) fnExactStacksTextUptoCard

/-- THE SECOND FORM's CARD OF 'laws.FnExactPeriodOf'. -/
def fnExactPeriodOfUptoCard : Claim7 := { stood := { row := fnExactPeriodOfUptoRow, standIns := [], harness := (true, "33085794b91520d759561fc28dbe3e85d6a40980c2900fb90af080e23dcf432d"), looks := false }, kinds := [], alts := [], laidByText := true, laidKinds := [.data, .data, .data], laidTests := true, laidLooks := .later }
def FnExactPeriodOfUptoCardSaid : Prop := Claim7.holds Tryd.pinned (.plain (OpenSpec.upto fnExactPeriodOfSpec)) fnExactPeriodOfUptoCard

/-- THE SECOND FORM's CARD OF 'laws.FnWalksTurn'. -/
def fnWalksTurnUptoCard : Claim7 := { stood := { row := fnWalksTurnUptoRow, standIns := [], harness := (true, "33085794b91520d759561fc28dbe3e85d6a40980c2900fb90af080e23dcf432d"), looks := false }, kinds := [], alts := [], laidByText := true, laidKinds := [.data, .data, .data], laidTests := true, laidLooks := .later }
def FnWalksTurnUptoCardSaid : Prop := Claim7.holds Tryd.pinned (.plain (OpenSpec.upto fnWalksTurnSpec)) fnWalksTurnUptoCard

/-- THE SECOND FORM's CARD OF 'laws.FnExactEulerTour'. -/
def fnExactEulerTourUptoCard : Claim7 := { stood := { row := fnExactEulerTourUptoRow, standIns := [], harness := (true, "33085794b91520d759561fc28dbe3e85d6a40980c2900fb90af080e23dcf432d"), looks := false }, kinds := [], alts := [], laidByText := true, laidKinds := [.data, .data, .data], laidTests := true, laidLooks := .later }
def FnExactEulerTourUptoCardSaid : Prop := Claim7.holds Tryd.pinned (.plain (OpenSpec.upto fnExactEulerTourSpec)) fnExactEulerTourUptoCard
end Rows
end Go.Proofs.YtkjkfjkapbpgiaaDoor
