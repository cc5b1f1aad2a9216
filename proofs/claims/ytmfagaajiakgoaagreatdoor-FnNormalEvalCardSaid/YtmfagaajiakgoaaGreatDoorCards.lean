/-
  DERIVED. GIVEN WITH THE SEED: THE CARDS: each row of YtmfagaajiakgoaaGreatDoorRows.lean that lists a variable, with what it lists TIED to the program's text (the seventh form; the later family's looks); each row that meets fmt, with fmt's text TOLD by the authors' own Lean function (tested against real Go, not proved from fmt's source: count such statements apart). THE CARD IS WHAT COUNTS. Prove the row's statement (the work); the ties are given (YtmfagaajiakgoaaGreatDoorTie.lean); close each card by the builder's one call (the guide's Derived/Test/ToyasCard.lean, 'card_holds'). Laid BY PROGRAM, IN A SANDBOX (cutbox-door.mjs). By AI agents, Wed Nov 11 2026. No macro, syntax, notation, axiom, sorry.
-/
import Derived.Test.YtmfagaajiakgoaaGreatDoorRows
import GoSem.ClaimSeven
namespace Go.Proofs.YtmfagaajiakgoaaGreatDoor
namespace Rows

/-- THE TIED CARD OF 'laws.FnFuel'. -/
def fnFuelCard : Claim7 := { stood := { row := fnFuelRow, standIns := [], harness := (true, "88fe5d8969794c32139dc0fe8fe4f5124b646813655e76f0510a6b72ebad8446"), looks := true }, kinds := [], alts := [], laidByText := true, laidKinds := [.data, .data, .data, .sentinel, .sentinel], laidTests := true, laidLooks := .later }
def FnFuelCardSaid : Prop := Claim7.holds Tryz.pinned (.plain (OpenSpec.ofChange fnFuelSpec)) fnFuelCard

/-- THE TIED CARD OF 'laws.FnEval'. -/
def fnEvalCard : Claim7 := { stood := { row := fnEvalRow, standIns := [], harness := (true, "88fe5d8969794c32139dc0fe8fe4f5124b646813655e76f0510a6b72ebad8446"), looks := true }, kinds := [], alts := [], laidByText := true, laidKinds := [.data, .data, .data, .sentinel, .sentinel], laidTests := true, laidLooks := .later }
def FnEvalCardSaid : Prop := Claim7.holds Tryz.pinned (.plain (OpenSpec.ofChange fnEvalSpec)) fnEvalCard

/-- THE TIED CARD OF 'laws.FnEvalType'. -/
def fnEvalTypeCard : Claim7 := { stood := { row := fnEvalTypeRow, standIns := [], harness := (true, "88fe5d8969794c32139dc0fe8fe4f5124b646813655e76f0510a6b72ebad8446"), looks := true }, kinds := [], alts := [], laidByText := true, laidKinds := [.data, .data, .data, .sentinel, .sentinel], laidTests := true, laidLooks := .later }
def FnEvalTypeCardSaid : Prop := Claim7.holds Tryz.pinned (.plain (OpenSpec.ofChange fnEvalTypeSpec)) fnEvalTypeCard

/-- THE TIED CARD OF 'laws.FnStuck'. -/
def fnStuckCard : Claim7 := { stood := { row := fnStuckRow, standIns := [], harness := (true, "88fe5d8969794c32139dc0fe8fe4f5124b646813655e76f0510a6b72ebad8446"), looks := true }, kinds := [], alts := [], laidByText := true, laidKinds := [.data, .data, .data, .sentinel, .sentinel], laidTests := true, laidLooks := .later }
def FnStuckCardSaid : Prop := Claim7.holds Tryz.pinned (.plain (OpenSpec.ofChange fnStuckSpec)) fnStuckCard

/-- THE TIED CARD OF 'laws.FnEvalStuck'. -/
def fnEvalStuckCard : Claim7 := { stood := { row := fnEvalStuckRow, standIns := [], harness := (true, "88fe5d8969794c32139dc0fe8fe4f5124b646813655e76f0510a6b72ebad8446"), looks := true }, kinds := [], alts := [], laidByText := true, laidKinds := [.data, .data, .data, .sentinel, .sentinel], laidTests := true, laidLooks := .later }
def FnEvalStuckCardSaid : Prop := Claim7.holds Tryz.pinned (.plain (OpenSpec.ofChange fnEvalStuckSpec)) fnEvalStuckCard

/-- THE TIED CARD OF 'laws.FnNormalOf'. -/
def fnNormalOfCard : Claim7 := { stood := { row := fnNormalOfRow, standIns := [], harness := (true, "88fe5d8969794c32139dc0fe8fe4f5124b646813655e76f0510a6b72ebad8446"), looks := true }, kinds := [], alts := [], laidByText := true, laidKinds := [.data, .data, .data], laidTests := true, laidLooks := .later }
def FnNormalOfCardSaid : Prop := Claim7.holds Tryz.pinned (.plain (OpenSpec.ofChange fnNormalOfSpec)) fnNormalOfCard

/-- THE TIED CARD OF 'laws.FnNormalEval'. -/
def fnNormalEvalCard : Claim7 := { stood := { row := fnNormalEvalRow, standIns := [], harness := (true, "88fe5d8969794c32139dc0fe8fe4f5124b646813655e76f0510a6b72ebad8446"), looks := true }, kinds := [], alts := [], laidByText := true, laidKinds := [.data, .data, .data, .sentinel, .sentinel], laidTests := true, laidLooks := .later }
def FnNormalEvalCardSaid : Prop := Claim7.holds Tryz.pinned (.plain (OpenSpec.ofChange fnNormalEvalSpec)) fnNormalEvalCard

/-- THE SECOND FORM's CARD OF 'laws.FnFuel'. -/
def fnFuelUptoCard : Claim7 := { stood := { row := fnFuelUptoRow, standIns := [], harness := (true, "88fe5d8969794c32139dc0fe8fe4f5124b646813655e76f0510a6b72ebad8446"), looks := true }, kinds := [], alts := [], laidByText := true, laidKinds := [.data, .data, .data, .sentinel, .sentinel], laidTests := true, laidLooks := .later }
def FnFuelUptoCardSaid : Prop := Claim7.holds Tryz.pinned (.plain (OpenSpec.upto fnFuelSpec)) fnFuelUptoCard

/-- THE SECOND FORM's CARD OF 'laws.FnEval'. -/
def fnEvalUptoCard : Claim7 := { stood := { row := fnEvalUptoRow, standIns := [], harness := (true, "88fe5d8969794c32139dc0fe8fe4f5124b646813655e76f0510a6b72ebad8446"), looks := true }, kinds := [], alts := [], laidByText := true, laidKinds := [.data, .data, .data, .sentinel, .sentinel], laidTests := true, laidLooks := .later }
def FnEvalUptoCardSaid : Prop := Claim7.holds Tryz.pinned (.plain (OpenSpec.upto fnEvalSpec)) fnEvalUptoCard

/-- THE SECOND FORM's CARD OF 'laws.FnEvalType'. -/
def fnEvalTypeUptoCard : Claim7 := { stood := { row := fnEvalTypeUptoRow, standIns := [], harness := (true, "88fe5d8969794c32139dc0fe8fe4f5124b646813655e76f0510a6b72ebad8446"), looks := true }, kinds := [], alts := [], laidByText := true, laidKinds := [.data, .data, .data, .sentinel, .sentinel], laidTests := true, laidLooks := .later }
def FnEvalTypeUptoCardSaid : Prop := Claim7.holds Tryz.pinned (.plain (OpenSpec.upto fnEvalTypeSpec)) fnEvalTypeUptoCard

/-- THE SECOND FORM's CARD OF 'laws.FnStuck'. -/
def fnStuckUptoCard : Claim7 := { stood := { row := fnStuckUptoRow, standIns := [], harness := (true, "88fe5d8969794c32139dc0fe8fe4f5124b646813655e76f0510a6b72ebad8446"), looks := true }, kinds := [], alts := [], laidByText := true, laidKinds := [.data, .data, .data, .sentinel, .sentinel], laidTests := true, laidLooks := .later }
def FnStuckUptoCardSaid : Prop := Claim7.holds Tryz.pinned (.plain (OpenSpec.upto fnStuckSpec)) fnStuckUptoCard

/-- THE SECOND FORM's CARD OF 'laws.FnEvalStuck'. -/
def fnEvalStuckUptoCard : Claim7 := { stood := { row := fnEvalStuckUptoRow, standIns := [], harness := (true, "88fe5d8969794c32139dc0fe8fe4f5124b646813655e76f0510a6b72ebad8446"), looks := true }, kinds := [], alts := [], laidByText := true, laidKinds := [.data, .data, .data, .sentinel, .sentinel], laidTests := true, laidLooks := .later }
def FnEvalStuckUptoCardSaid : Prop := Claim7.holds Tryz.pinned (.plain (OpenSpec.upto fnEvalStuckSpec)) fnEvalStuckUptoCard

/-- THE SECOND FORM's CARD OF 'laws.FnNormalOf'. -/
def fnNormalOfUptoCard : Claim7 := { stood := { row := fnNormalOfUptoRow, standIns := [], harness := (true, "88fe5d8969794c32139dc0fe8fe4f5124b646813655e76f0510a6b72ebad8446"), looks := true }, kinds := [], alts := [], laidByText := true, laidKinds := [.data, .data, .data], laidTests := true, laidLooks := .later }
def FnNormalOfUptoCardSaid : Prop := Claim7.holds Tryz.pinned (.plain (OpenSpec.upto fnNormalOfSpec)) fnNormalOfUptoCard

/-- THE SECOND FORM's CARD OF 'laws.FnNormalEval'. -/
def fnNormalEvalUptoCard : Claim7 := { stood := { row := fnNormalEvalUptoRow, standIns := [], harness := (true, "88fe5d8969794c32139dc0fe8fe4f5124b646813655e76f0510a6b72ebad8446"), looks := true }, kinds := [], alts := [], laidByText := true, laidKinds := [.data, .data, .data, .sentinel, .sentinel], laidTests := true, laidLooks := .later }
def FnNormalEvalUptoCardSaid : Prop := Claim7.holds Tryz.pinned (.plain (OpenSpec.upto fnNormalEvalSpec)) fnNormalEvalUptoCard
end Rows
end Go.Proofs.YtmfagaajiakgoaaGreatDoor
