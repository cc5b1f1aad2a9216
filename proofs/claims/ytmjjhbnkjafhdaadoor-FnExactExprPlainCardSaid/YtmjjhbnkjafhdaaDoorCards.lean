/-
  DERIVED. GIVEN WITH THE SEED: THE CARDS: each row of YtmjjhbnkjafhdaaDoorRows.lean that lists a variable, with what it lists TIED to the program's text (the seventh form; the later family's looks); each row that meets fmt, with fmt's text TOLD by the authors' own Lean function (tested against real Go, not proved from fmt's source: count such statements apart). THE CARD IS WHAT COUNTS. Prove the row's statement (the work); the ties are given (YtmjjhbnkjafhdaaDoorTie.lean); close each card by the builder's one call (the guide's Derived/Test/ToyasCard.lean, 'card_holds'). Laid BY PROGRAM, IN A SANDBOX (cutbox-door.mjs). By AI agents, Wed Nov 11 2026. No macro, syntax, notation, axiom, sorry.
-/
import Derived.Test.YtmjjhbnkjafhdaaDoorRows
import GoSem.ClaimSeven
namespace Go.Proofs.YtmjjhbnkjafhdaaDoor
namespace Rows

/-- THE TIED CARD OF 'laws.FnExactExprPlain'. -/
def fnExactExprPlainCard : Claim7 := { stood := { row := fnExactExprPlainRow, standIns := [], harness := (true, "bd904a12e7dfb75555d2759046e9ee27cbebd2238f84773a56168f0ad9f7608f"), looks := false }, kinds := [], alts := [], laidByText := true, laidKinds := [.data, .data, .data], laidTests := true, laidLooks := .later }
def FnExactExprPlainCardSaid : Prop := Claim7.holds Tryd.pinned (.plain (OpenSpec.ofChange fnExactExprPlainSpec)) fnExactExprPlainCard

/-- THE SECOND FORM's CARD OF 'laws.FnExactExprPlain'. -/
def fnExactExprPlainUptoCard : Claim7 := { stood := { row := fnExactExprPlainUptoRow, standIns := [], harness := (true, "bd904a12e7dfb75555d2759046e9ee27cbebd2238f84773a56168f0ad9f7608f"), looks := false }, kinds := [], alts := [], laidByText := true, laidKinds := [.data, .data, .data], laidTests := true, laidLooks := .later }
def FnExactExprPlainUptoCardSaid : Prop := Claim7.holds Tryd.pinned (.plain (OpenSpec.upto fnExactExprPlainSpec)) fnExactExprPlainUptoCard
end Rows
end Go.Proofs.YtmjjhbnkjafhdaaDoor
