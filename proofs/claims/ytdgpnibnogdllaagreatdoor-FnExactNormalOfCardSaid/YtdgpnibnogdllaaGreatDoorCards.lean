/-
  DERIVED. GIVEN WITH THE SEED: THE CARDS: each row of YtdgpnibnogdllaaGreatDoorRows.lean that lists a variable, with what it lists TIED to the program's text (the seventh form; the later family's looks); each row that meets fmt, with fmt's text TOLD by the authors' own Lean function (tested against real Go, not proved from fmt's source: count such statements apart). THE CARD IS WHAT COUNTS. Prove the row's statement (the work); the ties are given (YtdgpnibnogdllaaGreatDoorTie.lean); close each card by the builder's one call (the guide's Derived/Test/ToyasCard.lean, 'card_holds'). Laid BY PROGRAM, IN A SANDBOX (cutbox-door.mjs). By AI agents, Wed Nov 11 2026. No macro, syntax, notation, axiom, sorry.
-/
import Derived.Test.YtdgpnibnogdllaaGreatDoorRows
import GoSem.ClaimSeven
namespace Go.Proofs.YtdgpnibnogdllaaGreatDoor
namespace Rows

/-- THE TIED CARD OF 'laws.FnExactNormalOf'. -/
def fnExactNormalOfCard : Claim7 := { stood := { row := fnExactNormalOfRow, standIns := [], harness := (true, "6f0634f81cc289abbf2c084e5fea48eb7b0ea336c2256fe54f20d62fec8bb8a1"), looks := false }, kinds := [], alts := [], laidByText := true, laidKinds := [.data, .data, .data], laidTests := true, laidLooks := .later }
def FnExactNormalOfCardSaid : Prop := Claim7.holds Tryz.pinned (.plain (OpenSpec.ofChange fnExactNormalOfSpec)) fnExactNormalOfCard

/-- THE SECOND FORM's CARD OF 'laws.FnExactNormalOf'. -/
def fnExactNormalOfUptoCard : Claim7 := { stood := { row := fnExactNormalOfUptoRow, standIns := [], harness := (true, "6f0634f81cc289abbf2c084e5fea48eb7b0ea336c2256fe54f20d62fec8bb8a1"), looks := false }, kinds := [], alts := [], laidByText := true, laidKinds := [.data, .data, .data], laidTests := true, laidLooks := .later }
def FnExactNormalOfUptoCardSaid : Prop := Claim7.holds Tryz.pinned (.plain (OpenSpec.upto fnExactNormalOfSpec)) fnExactNormalOfUptoCard
end Rows
end Go.Proofs.YtdgpnibnogdllaaGreatDoor
