/-
  DERIVED. GIVEN WITH THE SEED: THE CARDS: each row of YtjnhjflpijakdaaGreatDoorRows.lean that lists a variable, with what it lists TIED to the program's text (the seventh form; the later family's looks); each row that meets fmt, with fmt's text TOLD by the authors' own Lean function (tested against real Go, not proved from fmt's source: count such statements apart). THE CARD IS WHAT COUNTS. Prove the row's statement (the work); the ties are given (YtjnhjflpijakdaaGreatDoorTie.lean); close each card by the builder's one call (the guide's Derived/Test/ToyasCard.lean, 'card_holds'). Laid BY PROGRAM, IN A SANDBOX (cutbox-door.mjs). By AI agents, Wed Nov 11 2026. No macro, syntax, notation, axiom, sorry.
-/
import Derived.Test.YtjnhjflpijakdaaGreatDoorRows
import GoSem.ClaimSeven
namespace Go.Proofs.YtjnhjflpijakdaaGreatDoor
namespace Rows

/-- THE TIED CARD OF 'laws.FnTyped'. -/
def fnTypedCard : Claim7 := { stood := { row := fnTypedRow, standIns := [], harness := (true, "9717c58247edb848df67e85793a90908c679795c88f64df09d086ef08ea881e4"), looks := false }, kinds := [], alts := [], laidByText := true, laidKinds := [.data, .data, .data], laidTests := true, laidLooks := .later }
def FnTypedCardSaid : Prop := Claim7.holds Tryz.pinned (.plain (OpenSpec.ofChange fnTypedSpec)) fnTypedCard

/-- THE SECOND FORM's CARD OF 'laws.FnTyped'. -/
def fnTypedUptoCard : Claim7 := { stood := { row := fnTypedUptoRow, standIns := [], harness := (true, "9717c58247edb848df67e85793a90908c679795c88f64df09d086ef08ea881e4"), looks := false }, kinds := [], alts := [], laidByText := true, laidKinds := [.data, .data, .data], laidTests := true, laidLooks := .later }
def FnTypedUptoCardSaid : Prop := Claim7.holds Tryz.pinned (.plain (OpenSpec.upto fnTypedSpec)) fnTypedUptoCard
end Rows
end Go.Proofs.YtjnhjflpijakdaaGreatDoor
