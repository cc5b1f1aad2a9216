/-
  DERIVED. GIVEN WITH THE SEED: THE CARDS: each row of YtbmgbhfeifgciaaDoorRows.lean that lists a variable, with what it lists TIED to the program's text (the seventh form; the later family's looks); each row that meets fmt, with fmt's text TOLD by the authors' own Lean function (tested against real Go, not proved from fmt's source: count such statements apart). THE CARD IS WHAT COUNTS. Prove the row's statement (the work); the ties are given (YtbmgbhfeifgciaaDoorTie.lean); close each card by the builder's one call (the guide's Derived/Test/ToyasCard.lean, 'card_holds'). Laid BY PROGRAM, IN A SANDBOX (cutbox-door.mjs). By AI agents, Wed Nov 11 2026. No macro, syntax, notation, axiom, sorry.
-/
import Derived.Test.YtbmgbhfeifgciaaDoorRows
import GoSem.ClaimSeven
namespace Go.Proofs.YtbmgbhfeifgciaaDoor
namespace Rows

/-- THE TIED CARD OF 'laws.FnInstr'. -/
def fnInstrCard : Claim7 := { stood := { row := fnInstrRow, standIns := [], harness := (true, "fbd9e06de93dcb56694687d2406f72701d623a01ae3dcd15a3f2ee04760d4094"), looks := true }, kinds := [], alts := [], laidByText := true, laidKinds := [.data, .data, .data, .sentinel, .sentinel], laidTests := true, laidLooks := .later }
def FnInstrCardSaid : Prop := Claim7.holds Tryd.pinned (.plain (OpenSpec.ofChange fnInstrSpec)) fnInstrCard

/-- THE TIED CARD OF 'laws.FnInstrLast'. -/
def fnInstrLastCard : Claim7 := { stood := { row := fnInstrLastRow, standIns := [], harness := (true, "fbd9e06de93dcb56694687d2406f72701d623a01ae3dcd15a3f2ee04760d4094"), looks := true }, kinds := [], alts := [], laidByText := true, laidKinds := [.data, .data, .data, .sentinel, .sentinel], laidTests := true, laidLooks := .later }
def FnInstrLastCardSaid : Prop := Claim7.holds Tryd.pinned (.plain (OpenSpec.ofChange fnInstrLastSpec)) fnInstrLastCard

/-- THE SECOND FORM's CARD OF 'laws.FnInstr'. -/
def fnInstrUptoCard : Claim7 := { stood := { row := fnInstrUptoRow, standIns := [], harness := (true, "fbd9e06de93dcb56694687d2406f72701d623a01ae3dcd15a3f2ee04760d4094"), looks := true }, kinds := [], alts := [], laidByText := true, laidKinds := [.data, .data, .data, .sentinel, .sentinel], laidTests := true, laidLooks := .later }
def FnInstrUptoCardSaid : Prop := Claim7.holds Tryd.pinned (.plain (OpenSpec.upto fnInstrSpec)) fnInstrUptoCard

/-- THE SECOND FORM's CARD OF 'laws.FnInstrLast'. -/
def fnInstrLastUptoCard : Claim7 := { stood := { row := fnInstrLastUptoRow, standIns := [], harness := (true, "fbd9e06de93dcb56694687d2406f72701d623a01ae3dcd15a3f2ee04760d4094"), looks := true }, kinds := [], alts := [], laidByText := true, laidKinds := [.data, .data, .data, .sentinel, .sentinel], laidTests := true, laidLooks := .later }
def FnInstrLastUptoCardSaid : Prop := Claim7.holds Tryd.pinned (.plain (OpenSpec.upto fnInstrLastSpec)) fnInstrLastUptoCard
end Rows
end Go.Proofs.YtbmgbhfeifgciaaDoor
