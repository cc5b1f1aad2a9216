/-
  DERIVED. GIVEN WITH THE SEED: THE CARDS: each row of YtocjeehkahjmdaaGreatDoorRows.lean that lists a variable, with what it lists TIED to the program's text (the seventh form; the later family's looks); each row that meets fmt, with fmt's text TOLD by the authors' own Lean function (tested against real Go, not proved from fmt's source: count such statements apart). THE CARD IS WHAT COUNTS. Prove the row's statement (the work); the ties are given (YtocjeehkahjmdaaGreatDoorTie.lean); close each card by the builder's one call (the guide's Derived/Test/ToyasCard.lean, 'card_holds'). Laid BY PROGRAM, IN A SANDBOX (cutbox-door.mjs). By AI agents, Wed Nov 11 2026. No macro, syntax, notation, axiom, sorry.
-/
import Derived.Test.YtocjeehkahjmdaaGreatDoorRows
import GoSem.ClaimSeven
namespace Go.Proofs.YtocjeehkahjmdaaGreatDoor
namespace Rows

/-- THE TIED CARD OF 'laws.FnMany'. -/
def fnManyCard : Claim7 := { stood := { row := fnManyRow, standIns := [], harness := (true, "f862974a6403c2cef760fef3d4448bef1e2746fcab20bdc1c3f7cc749a777e9f"), looks := false }, kinds := [], alts := [], laidByText := true, laidKinds := [.data, .data, .data], laidTests := true, laidLooks := .later }
def FnManyCardSaid : Prop := Claim7.holds Tryz.pinned (.plain (OpenSpec.ofChange fnManySpec)) fnManyCard

/-- THE SECOND FORM's CARD OF 'laws.FnMany'. -/
def fnManyUptoCard : Claim7 := { stood := { row := fnManyUptoRow, standIns := [], harness := (true, "f862974a6403c2cef760fef3d4448bef1e2746fcab20bdc1c3f7cc749a777e9f"), looks := false }, kinds := [], alts := [], laidByText := true, laidKinds := [.data, .data, .data], laidTests := true, laidLooks := .later }
def FnManyUptoCardSaid : Prop := Claim7.holds Tryz.pinned (.plain (OpenSpec.upto fnManySpec)) fnManyUptoCard
end Rows
end Go.Proofs.YtocjeehkahjmdaaGreatDoor
