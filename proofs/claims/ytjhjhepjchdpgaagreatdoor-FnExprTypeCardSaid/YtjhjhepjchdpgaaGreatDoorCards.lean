/-
  DERIVED. GIVEN WITH THE SEED: THE CARDS: each row of YtjhjhepjchdpgaaGreatDoorRows.lean that lists a variable, with what it lists TIED to the program's text (the seventh form; the later family's looks); each row that meets fmt, with fmt's text TOLD by the authors' own Lean function (tested against real Go, not proved from fmt's source: count such statements apart). THE CARD IS WHAT COUNTS. Prove the row's statement (the work); the ties are given (YtjhjhepjchdpgaaGreatDoorTie.lean); close each card by the builder's one call (the guide's Derived/Test/ToyasCard.lean, 'card_holds'). Laid BY PROGRAM, IN A SANDBOX (cutbox-door.mjs). By AI agents, Wed Nov 11 2026. No macro, syntax, notation, axiom, sorry.
-/
import Derived.Test.YtjhjhepjchdpgaaGreatDoorRows
import GoSem.ClaimSeven
namespace Go.Proofs.YtjhjhepjchdpgaaGreatDoor
namespace Rows

/-- THE TIED CARD OF 'laws.FnExprType'. -/
def fnExprTypeCard : Claim7 := { stood := { row := fnExprTypeRow, standIns := [], harness := (true, "6698931c92a9752ed47b2347dbac9409df33d0105c3fdd2524a31f776a62cd48"), looks := false }, kinds := [], alts := [], laidByText := true, laidKinds := [.data, .data, .data], laidTests := true, laidLooks := .later }
def FnExprTypeCardSaid : Prop := Claim7.holds Tryz.pinned (.plain (OpenSpec.ofChange fnExprTypeSpec)) fnExprTypeCard

/-- THE SECOND FORM's CARD OF 'laws.FnExprType'. -/
def fnExprTypeUptoCard : Claim7 := { stood := { row := fnExprTypeUptoRow, standIns := [], harness := (true, "6698931c92a9752ed47b2347dbac9409df33d0105c3fdd2524a31f776a62cd48"), looks := false }, kinds := [], alts := [], laidByText := true, laidKinds := [.data, .data, .data], laidTests := true, laidLooks := .later }
def FnExprTypeUptoCardSaid : Prop := Claim7.holds Tryz.pinned (.plain (OpenSpec.upto fnExprTypeSpec)) fnExprTypeUptoCard
end Rows
end Go.Proofs.YtjhjhepjchdpgaaGreatDoor
