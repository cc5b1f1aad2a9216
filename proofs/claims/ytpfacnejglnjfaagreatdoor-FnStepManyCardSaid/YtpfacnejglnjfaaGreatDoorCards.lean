/-
  DERIVED. GIVEN WITH THE SEED: THE CARDS: each row of YtpfacnejglnjfaaGreatDoorRows.lean that lists a variable, with what it lists TIED to the program's text (the seventh form; the later family's looks); each row that meets fmt, with fmt's text TOLD by the authors' own Lean function (tested against real Go, not proved from fmt's source: count such statements apart). THE CARD IS WHAT COUNTS. Prove the row's statement (the work); the ties are given (YtpfacnejglnjfaaGreatDoorTie.lean); close each card by the builder's one call (the guide's Derived/Test/ToyasCard.lean, 'card_holds'). Laid BY PROGRAM, IN A SANDBOX (cutbox-door.mjs). By AI agents, Wed Nov 11 2026. No macro, syntax, notation, axiom, sorry.
-/
import Derived.Test.YtpfacnejglnjfaaGreatDoorRows
import GoSem.ClaimSeven
namespace Go.Proofs.YtpfacnejglnjfaaGreatDoor
namespace Rows

/-- THE TIED CARD OF 'laws.FnStepMany'. -/
def fnStepManyCard : Claim7 := { stood := { row := fnStepManyRow, standIns := [], harness := (true, "5857823539d47a90838854db29b6363b4741ce24694ec247b7670ef0579fb612"), looks := true }, kinds := [], alts := [], laidByText := true, laidKinds := [.data, .data, .data, .sentinel, .sentinel], laidTests := true, laidLooks := .later }
def FnStepManyCardSaid : Prop := Claim7.holds Tryz.pinned (.plain (OpenSpec.ofChange fnStepManySpec)) fnStepManyCard

/-- THE SECOND FORM's CARD OF 'laws.FnStepMany'. -/
def fnStepManyUptoCard : Claim7 := { stood := { row := fnStepManyUptoRow, standIns := [], harness := (true, "5857823539d47a90838854db29b6363b4741ce24694ec247b7670ef0579fb612"), looks := true }, kinds := [], alts := [], laidByText := true, laidKinds := [.data, .data, .data, .sentinel, .sentinel], laidTests := true, laidLooks := .later }
def FnStepManyUptoCardSaid : Prop := Claim7.holds Tryz.pinned (.plain (OpenSpec.upto fnStepManySpec)) fnStepManyUptoCard
end Rows
end Go.Proofs.YtpfacnejglnjfaaGreatDoor
