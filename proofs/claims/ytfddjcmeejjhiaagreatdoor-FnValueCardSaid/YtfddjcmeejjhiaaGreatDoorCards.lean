/-
  DERIVED. GIVEN WITH THE SEED: THE CARDS: each row of YtfddjcmeejjhiaaGreatDoorRows.lean that lists a variable, with what it lists TIED to the program's text (the seventh form; the later family's looks); each row that meets fmt, with fmt's text TOLD by the authors' own Lean function (tested against real Go, not proved from fmt's source: count such statements apart). THE CARD IS WHAT COUNTS. Prove the row's statement (the work); the ties are given (YtfddjcmeejjhiaaGreatDoorTie.lean); close each card by the builder's one call (the guide's Derived/Test/ToyasCard.lean, 'card_holds'). Laid BY PROGRAM, IN A SANDBOX (cutbox-door.mjs). By AI agents, Wed Nov 11 2026. No macro, syntax, notation, axiom, sorry.
-/
import Derived.Test.YtfddjcmeejjhiaaGreatDoorRows
import GoSem.ClaimSeven
namespace Go.Proofs.YtfddjcmeejjhiaaGreatDoor
namespace Rows

/-- THE TIED CARD OF 'laws.FnStep'. -/
def fnStepCard : Claim7 := { stood := { row := fnStepRow, standIns := [], harness := (true, "55aac230557f1d2c29bd970a97e56988febae9501fbc2b50314e83f86bf3b106"), looks := true }, kinds := [], alts := [], laidByText := true, laidKinds := [.data, .data, .data, .sentinel, .sentinel], laidTests := true, laidLooks := .later }
def FnStepCardSaid : Prop := Claim7.holds Tryz.pinned (.plain (OpenSpec.ofChange fnStepSpec)) fnStepCard

/-- THE TIED CARD OF 'laws.FnExactStepMany'. -/
def fnExactStepManyCard : Claim7 := { stood := { row := fnExactStepManyRow, standIns := [], harness := (true, "55aac230557f1d2c29bd970a97e56988febae9501fbc2b50314e83f86bf3b106"), looks := true }, kinds := [], alts := [], laidByText := true, laidKinds := [.data, .data, .data, .sentinel, .sentinel], laidTests := true, laidLooks := .later }
def FnExactStepManyCardSaid : Prop := Claim7.holds Tryz.pinned (.plain (OpenSpec.ofChange fnExactStepManySpec)) fnExactStepManyCard

/-- THE TIED CARD OF 'laws.FnProgress'. -/
def fnProgressCard : Claim7 := { stood := { row := fnProgressRow, standIns := [], harness := (true, "55aac230557f1d2c29bd970a97e56988febae9501fbc2b50314e83f86bf3b106"), looks := true }, kinds := [], alts := [], laidByText := true, laidKinds := [.data, .data, .data, .sentinel, .sentinel], laidTests := true, laidLooks := .later }
def FnProgressCardSaid : Prop := Claim7.holds Tryz.pinned (.plain (OpenSpec.ofChange fnProgressSpec)) fnProgressCard

/-- THE TIED CARD OF 'laws.FnValue'. -/
def fnValueCard : Claim7 := { stood := { row := fnValueRow, standIns := [], harness := (true, "55aac230557f1d2c29bd970a97e56988febae9501fbc2b50314e83f86bf3b106"), looks := true }, kinds := [], alts := [], laidByText := true, laidKinds := [.data, .data, .data, .sentinel, .sentinel], laidTests := true, laidLooks := .later }
def FnValueCardSaid : Prop := Claim7.holds Tryz.pinned (.plain (OpenSpec.ofChange fnValueSpec)) fnValueCard

/-- THE TIED CARD OF 'laws.FnExactEval'. -/
def fnExactEvalCard : Claim7 := { stood := { row := fnExactEvalRow, standIns := [], harness := (true, "55aac230557f1d2c29bd970a97e56988febae9501fbc2b50314e83f86bf3b106"), looks := true }, kinds := [], alts := [], laidByText := true, laidKinds := [.data, .data, .data, .sentinel, .sentinel], laidTests := true, laidLooks := .later }
def FnExactEvalCardSaid : Prop := Claim7.holds Tryz.pinned (.plain (OpenSpec.ofChange fnExactEvalSpec)) fnExactEvalCard

/-- THE TIED CARD OF 'laws.FnExactEvalFuel'. -/
def fnExactEvalFuelCard : Claim7 := { stood := { row := fnExactEvalFuelRow, standIns := [], harness := (true, "55aac230557f1d2c29bd970a97e56988febae9501fbc2b50314e83f86bf3b106"), looks := true }, kinds := [], alts := [], laidByText := true, laidKinds := [.data, .data, .data, .sentinel, .sentinel], laidTests := true, laidLooks := .later }
def FnExactEvalFuelCardSaid : Prop := Claim7.holds Tryz.pinned (.plain (OpenSpec.ofChange fnExactEvalFuelSpec)) fnExactEvalFuelCard

/-- THE SECOND FORM's CARD OF 'laws.FnStep'. -/
def fnStepUptoCard : Claim7 := { stood := { row := fnStepUptoRow, standIns := [], harness := (true, "55aac230557f1d2c29bd970a97e56988febae9501fbc2b50314e83f86bf3b106"), looks := true }, kinds := [], alts := [], laidByText := true, laidKinds := [.data, .data, .data, .sentinel, .sentinel], laidTests := true, laidLooks := .later }
def FnStepUptoCardSaid : Prop := Claim7.holds Tryz.pinned (.plain (OpenSpec.upto fnStepSpec)) fnStepUptoCard

/-- THE SECOND FORM's CARD OF 'laws.FnExactStepMany'. -/
def fnExactStepManyUptoCard : Claim7 := { stood := { row := fnExactStepManyUptoRow, standIns := [], harness := (true, "55aac230557f1d2c29bd970a97e56988febae9501fbc2b50314e83f86bf3b106"), looks := true }, kinds := [], alts := [], laidByText := true, laidKinds := [.data, .data, .data, .sentinel, .sentinel], laidTests := true, laidLooks := .later }
def FnExactStepManyUptoCardSaid : Prop := Claim7.holds Tryz.pinned (.plain (OpenSpec.upto fnExactStepManySpec)) fnExactStepManyUptoCard

/-- THE SECOND FORM's CARD OF 'laws.FnProgress'. -/
def fnProgressUptoCard : Claim7 := { stood := { row := fnProgressUptoRow, standIns := [], harness := (true, "55aac230557f1d2c29bd970a97e56988febae9501fbc2b50314e83f86bf3b106"), looks := true }, kinds := [], alts := [], laidByText := true, laidKinds := [.data, .data, .data, .sentinel, .sentinel], laidTests := true, laidLooks := .later }
def FnProgressUptoCardSaid : Prop := Claim7.holds Tryz.pinned (.plain (OpenSpec.upto fnProgressSpec)) fnProgressUptoCard

/-- THE SECOND FORM's CARD OF 'laws.FnValue'. -/
def fnValueUptoCard : Claim7 := { stood := { row := fnValueUptoRow, standIns := [], harness := (true, "55aac230557f1d2c29bd970a97e56988febae9501fbc2b50314e83f86bf3b106"), looks := true }, kinds := [], alts := [], laidByText := true, laidKinds := [.data, .data, .data, .sentinel, .sentinel], laidTests := true, laidLooks := .later }
def FnValueUptoCardSaid : Prop := Claim7.holds Tryz.pinned (.plain (OpenSpec.upto fnValueSpec)) fnValueUptoCard

/-- THE SECOND FORM's CARD OF 'laws.FnExactEval'. -/
def fnExactEvalUptoCard : Claim7 := { stood := { row := fnExactEvalUptoRow, standIns := [], harness := (true, "55aac230557f1d2c29bd970a97e56988febae9501fbc2b50314e83f86bf3b106"), looks := true }, kinds := [], alts := [], laidByText := true, laidKinds := [.data, .data, .data, .sentinel, .sentinel], laidTests := true, laidLooks := .later }
def FnExactEvalUptoCardSaid : Prop := Claim7.holds Tryz.pinned (.plain (OpenSpec.upto fnExactEvalSpec)) fnExactEvalUptoCard

/-- THE SECOND FORM's CARD OF 'laws.FnExactEvalFuel'. -/
def fnExactEvalFuelUptoCard : Claim7 := { stood := { row := fnExactEvalFuelUptoRow, standIns := [], harness := (true, "55aac230557f1d2c29bd970a97e56988febae9501fbc2b50314e83f86bf3b106"), looks := true }, kinds := [], alts := [], laidByText := true, laidKinds := [.data, .data, .data, .sentinel, .sentinel], laidTests := true, laidLooks := .later }
def FnExactEvalFuelUptoCardSaid : Prop := Claim7.holds Tryz.pinned (.plain (OpenSpec.upto fnExactEvalFuelSpec)) fnExactEvalFuelUptoCard
end Rows
end Go.Proofs.YtfddjcmeejjhiaaGreatDoor
